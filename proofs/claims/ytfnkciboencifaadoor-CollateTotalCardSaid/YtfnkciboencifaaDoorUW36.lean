/-
  Walks: Spoilt of the reference model.
-/
import Derived.Test.YtfnkciboencifaaDoorUW1
import Derived.Test.YtfnkciboencifaaDoorUW21
import Derived.Test.YtfnkciboencifaaDoorUL4
import Derived.Test.YtfnkciboencifaaDoorUW31
set_option linter.all false
namespace Go.Proofs.YtfnkciboencifaaDoor
open Go Go.RowKit
set_option linter.unusedSimpArgs false
set_option linter.unusedVariables false
set_option maxRecDepth 20000
set_option maxHeartbeats 400000
end Go.Proofs.YtfnkciboencifaaDoor
set_option linter.all false
namespace Go.Proofs.YtfnkciboencifaaDoor
open Go Go.RowKit
set_option linter.unusedSimpArgs false
set_option linter.unusedVariables false
set_option maxRecDepth 20000
set_option maxHeartbeats 400000
theorem leqW23 {p : Prop} (h : p := by (refine ⟨4, ?_, ?_, rfl, by simp, rfl, fun _ h _ => absurd h (Nat.not_lt_zero _)⟩ <;> (simp only [List.forall_mem_cons]; repeat' (first | refine And.intro ?_ ?_ | (intro p hp; exact absurd hp List.not_mem_nil) | rfl | exact sp (pure_madeV _) | exact sp (pure_spec _) | exact (sealed_pure _ _ _ (pure_ints _)).trans (ren_ints _ _).symm | exact (sealed_pure _ _ _ (pure_strs _)).trans (ren_strs _ _).symm | exact sp (by assumption) | (intro o ho; cases ho; refine ⟨by decide, ?_⟩; first | (refine LeqS.row rfl ?_ ?_; (next => (first | rfl | (simp only [List.map_append, List.map_cons, List.map_nil, List.append_nil, List.nil_append, List.append_assoc, List.cons_append, encI, encS, ints, strs]; done) | (simp [encI, encS, ints, strs]; done))); (next => (first | rfl | exact pureL_encI _ | exact pureL_encS _ | exact pureL_ints _ | exact pureL_strs _ | (simp [pureL_append, pureL_encI, pureL_encS, pureL_ints, pureL_strs, pureL, PV.pure, pure_ints, pure_strs, pure_madeV, pure_spec]; done))); done) | refine ⟨_, rfl, rfl, ?_⟩) | (simp [St.born, St.known, retV, St.get, St.obj, lk, sealed, PV.ren, renL, rmap, AO.ren, ints, strs, encI, encS, map_sealed_encI, map_sealed_encS, map_sealed_ints, map_sealed_strs, map_ren_encI, map_ren_encS, map_ren_ints, map_ren_strs, renL_encI, renL_encS, renL_ints, renL_strs, ren_madeV, sealed_madeV, ren_spec] <;> omega))))) : p := h
theorem lelW23 {p : Prop} (h : p := by (first | rfl | (simp only [List.map_append, List.map_cons, List.map_nil, List.append_nil, List.nil_append, List.append_assoc, List.cons_append, encI, encS, ints, strs]; done) | (simp [encI, encS, ints, strs]; done))) : p := h
theorem lpuW23 {p : Prop} (h : p := by (first | rfl | exact pureL_encI _ | exact pureL_encS _ | exact pureL_ints _ | exact pureL_strs _ | (simp [pureL_append, pureL_encI, pureL_encS, pureL_ints, pureL_strs, pureL, PV.pure, pure_ints, pure_strs, pure_madeV, pure_spec]; done))) : p := h
theorem lsrW23 {p : Prop} (h : p := by (first | rfl | (simp [St.born, St.known, retV, St.get, St.obj, lk, sealed, PV.ren, renL, rmap, AO.ren, ints, strs, encI, encS, map_sealed_encI, map_sealed_encS, map_sealed_ints, map_sealed_strs, map_ren_encI, map_ren_encS, map_ren_ints, map_ren_strs, renL_encI, renL_encS, renL_ints, renL_strs, ren_madeV, sealed_madeV, ren_spec]; done))) : p := h
structure Fit (n : Nat) (s : SpecD) : Prop where
  skip : s.skip.length ≤ n
  order : s.order.length ≤ n
  skips : ∀ x, x ∈ s.skip → x.size ≤ 64
  orders : ∀ x, x ∈ s.order → x.size ≤ 64
theorem Fit.sane {n : Nat} {s : SpecD} (h : Fit n s) (hn : n ≤ 1000) : Sane s :=
  ⟨by have := h.skip; omega, by have := h.order; omega, fun x hx => by have := h.skips x hx; omega, fun x hx => by have := h.orders x hx; omega⟩
theorem orderN_size (kind : Int) : ∀ i x, x ∈ orderN kind i → x.size ≤ 64
  | 0, x, h => by simp [orderN] at h
  | i + 1, x, h => by
    rw [orderN] at h
    rcases List.mem_append.1 h with h | h
    · exact orderN_size kind i x h
    · split at h
      · rw [List.mem_singleton.1 h, ByteArray.size_append, oneB_size, oneB_size]; omega
      · rcases List.mem_cons.1 h with rfl | h
        · rw [oneB_size]; omega
        · rw [List.mem_singleton.1 h, oneB_size]; omega
theorem dig3_size : ∀ x, x ∈ dig3 → x.size ≤ 64 := by decide
theorem madeSk_fit (k : Int) : (madeSk k).length ≤ 60 ∧ ∀ x, x ∈ madeSk k → x.size ≤ 64 := by
  unfold madeSk
  split
  · exact ⟨by decide, by decide⟩
  · split
    · exact ⟨by decide, by decide⟩
    · split
      · exact ⟨by decide, by decide⟩
      · exact ⟨by decide, by decide⟩
theorem made_fit (l : List Int) : Fit 60 (madeS l) := by
  have ho := orderN_len (atI l 3 4) 26
  have hs := orderN_size (atI l 3 4) 26
  refine ⟨(madeSk_fit _).1, ?_, (madeSk_fit _).2, ?_⟩
  · show (madeO (atI l 3 4) (atI l 4 3)).length ≤ 60
    unfold madeO
    split
    · simp <;> omega
    · split
      · simp [dig3] <;> omega
      · omega
  · show ∀ x, x ∈ madeO (atI l 3 4) (atI l 4 3) → x.size ≤ 64
    unfold madeO
    split
    · intro x hx
      rcases List.mem_cons.1 hx with rfl | hx
      · decide
      · exact hs x hx
    · split
      · intro x hx
        rcases List.mem_append.1 hx with hx | hx
        · exact hs x hx
        · exact dig3_size x hx
      · exact hs
theorem own_pure (s : SpecD) : Pure Tryd.prog 14 [encSpec s] (encSpec s) [] := by
  refine Pure.introR (rv := [.cell 2 33]) Tryd.func14 (by kernel_rfl) rfl rfl rfl (Nat.le_of_ble_eq_true rfl) ?_ ?_
  · simp [encB, encS, encSpec, PV.pure, pureL, pure_strs]
  refine sZ [1, 2] (fun P S K => XvBox S.nx (S.get 0) (fun r0 e0 => XvAlloc P 33 (S.nx + e0.add.length) (fun r1 e1 => K ⟨[(1, r0), (2, r1)], (Eff.hp e1 (S.nx + e0.add.length) (Eff.hp e0 S.nx S.hp)), ((S.nx + e0.add.length) + e1.add.length), S.gh⟩))) fun K hK => ?_
  repeat' (first | (refine hK _ ?_; clear hK K) | ((first | refine xG_intro (fun hg => ?_) (fun hg => ?_) | refine fun (hg : (_ : Prop)) => ?_) <;> ((try simp only [BQ] at hg); try (exfalso; omega))) | refine And.intro ?_ ?_ | exact cl | refine one_take ?_ _ | refine one_drop ?_ _ | (refine st ?_; try simp only [encSpec]) | simp only [encSpec])
  all_goals
  refine sZ [2] (fun P S K => XvFieldAddr P 35 0 (S.get 1) (fun r0 _ => XvLoad P 4 (M S.hp S.nx) r0 (fun r1 _ => XvFieldAddr P 35 1 (S.get 1) (fun r2 _ => XvLoad P 25 (M S.hp S.nx) r2 (fun r3 _ => XvFieldAddr P 35 2 (S.get 1) (fun r4 _ => XvLoad P 4 (M S.hp S.nx) r4 (fun r5 _ => XvFieldAddr P 35 3 (S.get 1) (fun r6 _ => XvLoad P 25 (M S.hp S.nx) r6 (fun r7 _ => XvBuild P 33 [(0, r1), (1, r3), (2, r5), (3, r7)] (fun r8 _ => XvStore P 33 (M S.hp S.nx) (S.get 2) r8 (fun r9 e9 => K ⟨[(2, S.get 2)], (Eff.hp e9 S.nx S.hp), (S.nx + e9.add.length), S.gh⟩))))))))))) fun K hK => ?_
  repeat' (first | (refine hK _ ?_; clear hK K) | ((first | refine xG_intro (fun hg => ?_) (fun hg => ?_) | refine fun (hg : (_ : Prop)) => ?_) <;> ((try simp only [BQ] at hg); try (exfalso; omega))) | refine And.intro ?_ ?_ | exact cl | refine one_take ?_ _ | refine one_drop ?_ _ | (refine st ?_; try simp only [encSpec]) | simp only [encSpec])
  all_goals
  refine Tri.ret ?_
  show ResR _ _ _ _ _
  exact ResR.cell1 (encSpec s) rfl (sealed_pure _ _ _ (pure_spec _)) (pure_spec _)
def textC (len : Nat) (most : Int) : Nat := min ((len + 4) / 5) most.toNat
def textsN (l : List Int) : Nat → List ByteArray
  | 0 => []
  | i + 1 => textsN l i ++ [textS l (5 * i)]
theorem textsN_len (l : List Int) : ∀ i, (textsN l i).length = i
  | 0 => rfl
  | i + 1 => by rw [textsN, List.length_append, textsN_len l i]; rfl
theorem textsN_size (l : List Int) : ∀ i x, x ∈ textsN l i → x.size ≤ 40
  | 0, x, h => by simp [textsN] at h
  | i + 1, x, h => by
    rw [textsN] at h
    rcases List.mem_append.1 h with h | h
    · exact textsN_size l i x h
    · rw [List.mem_singleton.1 h]; exact textS_size _ _
theorem texts_pure (l : List Int) (most : Int) (hl : Fits l) (h0 : 0 ≤ most) (h1 : most ≤ 1000) : Pure Tryd.prog 10 [ints l, encI most] (.ob 0 1 0 (textC l.length most)) [⟨1, (textsN l (textC l.length most)).map encS⟩] := by
  have hll := hl.2
  refine Pure.intro (ts := [4]) Tryd.func10 (by kernel_rfl) rfl rfl rfl (Nat.le_of_ble_eq_true rfl) ?_ ?_
  · simp [pure_ints, pure_strs, encI, encS, PV.pure, pureL]
  refine sY [0, 1] (fun P S K => K ⟨[(0, S.get 0), (1, S.get 1)], S.hp, S.nx, S.gh⟩) ?_
  all_goals
  refine sY [0, 1, 5] (fun P S K => K ⟨[(0, S.get 0), (1, S.get 1), (5, (.atom (.slice none 0 0)))], S.hp, S.nx, S.gh⟩) ?_
  refine Tri.born 5 1 rfl ?_
  all_goals
  refine Tri.seq ?_
  refine sY [0, 1, 5, 6] (fun P S K => K ⟨[(0, S.get 0), (1, S.get 1), (5, S.get 5), (6, (.atom (.int .i64 0)))], S.hp, S.nx, S.gh⟩) ?_
  all_goals
  refine Tri.block ?_
  refine Tri.loop (α := (i : Nat) ×' (i ≤ textC l.length most)) (fun z => (fun (i : Nat) => (⟨[(0, ints l), (1, encI most), (5, .ob 0 1 0 i), (6, encI i)], [(0, some ⟨1, (textsN l i).map encS⟩)], 1, []⟩ : St)) z.1) (fun z => (fun (i : Nat) => 1000 - i) z.1) ⟨0, Nat.zero_le _⟩ [0] ?_ ?_
  ·exact leqW23
  ·rintro ⟨i, hi⟩
   have hi2 := hi
   unfold textC at hi2
   have hw5 : IntKind.i64.wrap (5 * (i : Int)) = 5 * i := wrap_id (by omega) (by omega)
   have htl := textsN_len l i
   refine Tri.seq ?_
   refine sZ [0, 1, 5, 6, 16] (fun P S K => XvBinOV P .mul 3 (.tmp 7) (.atom (.int .i64 5)) (S.get 6) (fun r1 _ => XvLen P 22 (S.get 0) (fun r3 _ => XvBinOV P .lss 3 (.tmp 10) r1 r3 (fun r4 _ => Xgq r4 true (fun k => k (S.get 6)) (fun g6 r6 => Xgq g6 true (fun k => k (S.get 1)) (fun g7 r7 => Xgq g7 true (fun k => XvBinOV P .lss 3 (.tmp 14) r6 r7 (fun r8 _ => k r8)) (fun g8 r8 => XvPick g8 r8 (.atom (.bool false)) (fun r9 _ => K ⟨[(0, S.get 0), (1, S.get 1), (5, S.get 5), (6, S.get 6), (16, r9)], S.hp, S.nx, S.gh⟩)))))))) fun K hK => ?_
   repeat' (first | (refine hK _ ?_; clear hK K) | ((first | refine xG_intro (fun hg => ?_) (fun hg => ?_) | refine fun (hg : (_ : Prop)) => ?_) <;> ((try simp only [BQ] at hg); try (exfalso; omega))) | refine And.intro ?_ ?_ | exact cl | refine one_take ?_ _ | refine one_drop ?_ _ | (refine st ?_; try simp only [hw5]) | simp only [hw5])
   all_goals try simp (disch := omega) only [wrap_id, wrap8_id]
   all_goals
   refine Tri.cond rfl (fun h16 => ?_) (fun h16 => ?_)
   ·try (cases h16; done)
    all_goals (try simp only [CQ] at h16)
    all_goals
    refine Tri.skip ?_
    refine Tri.seq ?_
    refine Tri.block ?_
    refine rZ [0, 1, 5, 6] (fun P S K => XvBinOV P .mul 3 (.tmp 21) (.atom (.int .i64 5)) (S.get 6) (fun r3 _ => XvFnIV P (M S.hp S.nx) (.fn 34 []) [(S.get 0), r3] (fun r4 e4 => XvBuildS P 25 1 (S.nx + e4.add.length) [(0, r4)] (fun r5 e5 => (25 = 25 ∧ XvAppend P 25 (M (Eff.hp e5 (S.nx + e4.add.length) (Eff.hp e4 S.nx S.hp)) ((S.nx + e4.add.length) + e5.add.length)) (S.get 5) r5 (fun r6 e6 => K ⟨[(0, S.get 0), (1, S.get 1), (5, r6), (6, S.get 6)], (Eff.hp e6 ((S.nx + e4.add.length) + e5.add.length) (Eff.hp e5 (S.nx + e4.add.length) (Eff.hp e4 S.nx S.hp))), (((S.nx + e4.add.length) + e5.add.length) + e6.add.length), S.gh⟩)))))) fun K hK => ?_
    repeat' (first | (refine hK _ ?_; clear hK K) | ((first | refine xG_intro (fun hg => ?_) (fun hg => ?_) | refine fun (hg : (_ : Prop)) => ?_) <;> ((try simp only [BQ] at hg); try (exfalso; omega))) | refine And.intro ?_ ?_ | exact cl | refine one_take ?_ _ | refine one_drop ?_ _ | refine .inl ⟨_, _, Text_pure l (5 * i) hl (by omega) (by omega), ?_⟩ | refine ⟨_, _, Text_pure l (5 * i) hl (by omega) (by omega), ?_⟩ | (refine st ?_; try simp only [hw5, textsN_len]) | simp only [hw5, textsN_len])
    all_goals try simp (disch := omega) only [wrap_id, wrap8_id]
    all_goals
    refine rY [0, 1, 5, 6] (fun P S K => XvBinOV P .add 3 (.const (.int .i64 1)) (S.get 6) (.atom (.int .i64 1)) (fun r1 _ => K ⟨[(0, S.get 0), (1, S.get 1), (5, S.get 5), (6, r1)], S.hp, S.nx, S.gh⟩)) ?_
    all_goals try simp (disch := omega) only [wrap_id, wrap8_id]
    all_goals
    refine ⟨⟨i + 1, by unfold textC; omega⟩, [2], by dsimp only; omega, ?_⟩
    dsimp only
    rw [textsN]
    exact leqW23
   ·try (cases h16; done)
    all_goals (try simp only [CQ] at h16)
    all_goals
    refine Tri.exit ?_
    refine sY [4] (fun P S K => K ⟨[(4, (S.get 5))], S.hp, S.nx, S.gh⟩) ?_
    all_goals
    refine Tri.ret ?_
    show ResOk _ _ _ _
    have hfin : textC l.length most = i := by unfold textC; omega
    rw [hfin]
    exact ResOk.row 0 rfl lelW23 lpuW23 lsrW23
theorem noOb_madeV (k : Int) : (madeV k).noOb = true := by unfold madeV; split <;> rfl
end Go.Proofs.YtfnkciboencifaaDoor
set_option linter.all false
namespace Go.Proofs.YtfnkciboencifaaDoor
open Go Go.RowKit
set_option linter.unusedSimpArgs false
set_option linter.unusedVariables false
set_option maxRecDepth 20000
set_option maxHeartbeats 400000
theorem short_size (s : ByteArray) (n : Nat) : (s.extract 0 (min s.size n)).size ≤ n := by rw [ByteArray.size_extract]; omega
theorem AsSl.reach {sz : Nat} {l : List PV} {x : PV} (h : AsSl sz l x) (H : Nat → Option AO) (n : Nat) : reach H n x = [] := by
  cases n with
  | zero => rfl
  | succ n => rcases h with rfl | ⟨_, rfl⟩ <;> rfl
end Go.Proofs.YtfnkciboencifaaDoor
set_option linter.all false
namespace Go.Proofs.YtfnkciboencifaaDoor
open Go Go.RowKit
set_option linter.unusedSimpArgs false
set_option linter.unusedVariables false
set_option maxRecDepth 20000
set_option maxHeartbeats 400000
end Go.Proofs.YtfnkciboencifaaDoor
set_option linter.all false
namespace Go.Proofs.YtfnkciboencifaaDoor
open Go Go.RowKit
set_option linter.unusedSimpArgs false
set_option linter.unusedVariables false
set_option maxRecDepth 20000
set_option maxHeartbeats 400000
end Go.Proofs.YtfnkciboencifaaDoor
set_option linter.all false
namespace Go.Proofs.YtfnkciboencifaaDoor
open Go Go.RowKit
set_option linter.unusedSimpArgs false
set_option linter.unusedVariables false
set_option maxRecDepth 20000
set_option maxHeartbeats 4000000
end Go.Proofs.YtfnkciboencifaaDoor
set_option linter.all false
namespace Go.Proofs.YtfnkciboencifaaDoor
open Go Go.RowKit
set_option linter.unusedSimpArgs false
set_option linter.unusedVariables false
theorem lexi_cons (a b : Int) (x y : List Int) : lexi (a :: x) (b :: y) = if a < b then -1 else if b < a then 1 else lexi x y := rfl
theorem lexi_anti : ∀ a b : List Int, lexi a b = - lexi b a
  | [], [] => rfl
  | [], _ :: _ => rfl
  | _ :: _, [] => rfl
  | a :: x, b :: y => by
    rw [lexi_cons, lexi_cons, lexi_anti x y]
    by_cases h1 : a < b
    · rw [if_pos h1, if_neg (by omega), if_pos h1]
    · by_cases h2 : b < a
      · rw [if_neg h1, if_pos h2, if_pos h2]; rfl
      · rw [if_neg h1, if_neg h2, if_neg h2, if_neg h1]
theorem lexi_rng : ∀ a b : List Int, -1 ≤ lexi a b ∧ lexi a b ≤ 1
  | [], [] => by decide
  | [], _ :: _ => ⟨Int.le_refl _, (by decide : (-1 : Int) ≤ 1)⟩
  | _ :: _, [] => ⟨(by decide : (-1 : Int) ≤ 1), Int.le_refl _⟩
  | a :: x, b :: y => by
    rw [lexi_cons]
    have := lexi_rng x y
    split
    · omega
    · split
      · omega
      · exact this
theorem lexi_trans : ∀ a b c : List Int, lexi a b ≤ 0 → lexi b c ≤ 0 → lexi a c ≤ 0
  | [], _, [], _, _ => by decide
  | [], _, _ :: _, _, _ => by show (-1 : Int) ≤ 0; decide
  | _ :: _, [], _, h, _ => by have : (1 : Int) ≤ 0 := h; omega
  | _ :: _, _ :: _, [], _, h => by have : (1 : Int) ≤ 0 := h; omega
  | a :: x, b :: y, c :: z, h1, h2 => by
    rw [lexi_cons] at h1 h2 ⊢
    have ih := lexi_trans x y z
    by_cases g1 : a < c
    · rw [if_pos g1]; decide
    · rw [if_neg g1]
      by_cases g2 : a < b
      · rw [if_neg (show ¬ b < c by omega), if_pos (show c < b by omega)] at h2; omega
      · rw [if_neg g2] at h1
        by_cases g3 : b < a
        · rw [if_pos g3] at h1; omega
        · rw [if_neg g3] at h1
          have e : a = b := by omega
          subst e
          rw [if_neg g1] at h2
          by_cases g4 : c < a
          · rw [if_pos g4] at h2; omega
          · rw [if_neg g4] at h2 ⊢
            exact ih h1 h2
structure Ord (c : Nat → Nat → Int) : Prop where
  anti : ∀ a b, c a b = - c b a
  trans : ∀ a b d, c a b ≤ 0 → c b d ≤ 0 → c a d ≤ 0
theorem Ord.refl {c : Nat → Nat → Int} (h : Ord c) (a : Nat) : c a a = 0 := by have := h.anti a a; omega
noncomputable def keyN (s : SpecD) (B : List ByteArray) (a b : Nat) : Int := lexi (keyOf s (ls B a)) (keyOf s (ls B b))
theorem keyN_ord (s : SpecD) (B : List ByteArray) : Ord (keyN s B) := ⟨fun a b => lexi_anti _ _, fun a b d => lexi_trans _ _ _⟩
def rowP (c : Nat → Nat → Int) (a b : Nat) : List (Int × Int) := ((List.range b).filter fun y => decide (c a y ≤ 0)).map fun (y : Nat) => ((a : Int), (y : Int))
def allP (c : Nat → Nat → Int) (n a : Nat) : List (Int × Int) := (List.range a).flatMap fun x => rowP c x n
theorem rowP_succ (c : Nat → Nat → Int) (a b : Nat) : rowP c a (b + 1) = rowP c a b ++ if c a b ≤ 0 then [((a : Int), (b : Int))] else [] := by
  unfold rowP
  rw [List.range_succ, List.filter_append, List.map_append]
  by_cases h : c a b ≤ 0 <;> simp [h]
theorem allP_succ (c : Nat → Nat → Int) (n a : Nat) : allP c n (a + 1) = allP c n a ++ rowP c a n := by
  unfold allP; rw [List.range_succ, List.flatMap_append]; simp
theorem rowP_len (c : Nat → Nat → Int) (a b : Nat) : (rowP c a b).length ≤ b := by
  have h := List.length_filter_le (fun y => decide (c a y ≤ 0)) (List.range b)
  rw [List.length_range] at h
  unfold rowP; rw [List.length_map]; exact h
theorem allP_len (c : Nat → Nat → Int) (n : Nat) : ∀ a, (allP c n a).length ≤ a * n
  | 0 => Nat.zero_le _
  | a + 1 => by rw [allP_succ, List.length_append, Nat.add_mul, Nat.one_mul]; exact Nat.add_le_add (allP_len c n a) (rowP_len c a n)
theorem rowP_mem {c : Nat → Nat → Int} {a b : Nat} {p : Int × Int} (h : p ∈ rowP c a b) : ∃ y, y < b ∧ c a y ≤ 0 ∧ p = ((a : Int), (y : Int)) := by
  obtain ⟨y, h1, h2⟩ := List.mem_map.1 h
  have h3 := List.mem_filter.1 h1
  exact ⟨y, List.mem_range.1 h3.1, of_decide_eq_true h3.2, h2.symm⟩
theorem allP_mem {c : Nat → Nat → Int} {n a : Nat} {p : Int × Int} (h : p ∈ allP c n a) : ∃ x y, x < a ∧ y < n ∧ c x y ≤ 0 ∧ p = ((x : Int), (y : Int)) := by
  obtain ⟨x, h1, h2⟩ := List.mem_flatMap.1 h
  obtain ⟨y, g1, g2, g3⟩ := rowP_mem h2
  exact ⟨x, y, List.mem_range.1 h1, g1, g2, g3⟩
theorem mem_allP {c : Nat → Nat → Int} {n a x y : Nat} (hx : x < a) (hy : y < n) (h : c x y ≤ 0) : ((x : Int), (y : Int)) ∈ allP c n a :=
  List.mem_flatMap.2 ⟨x, List.mem_range.2 hx, List.mem_map.2 ⟨y, List.mem_filter.2 ⟨List.mem_range.2 hy, decide_eq_true h⟩, rfl⟩⟩
theorem relB_all {c : Nat → Nat → Int} {n x y : Nat} (hx : x < n) (hy : y < n) : relB (allP c n n) x y = decide (c x y ≤ 0) := by
  unfold relB
  by_cases h : c x y ≤ 0
  · rw [decide_eq_true h, List.any_eq_true]
    exact ⟨_, mem_allP hx hy h, by simp⟩
  · rw [decide_eq_false h, Bool.eq_false_iff]
    intro hh
    obtain ⟨p, h1, h2⟩ := List.any_eq_true.1 hh
    obtain ⟨x', y', _, _, g3, rfl⟩ := allP_mem h1
    simp only [Bool.and_eq_true, decide_eq_true_eq] at h2
    obtain ⟨e1, e2⟩ := h2
    have e1 : x' = x := by omega
    have e2 : y' = y := by omega
    subst e1; subst e2
    exact h g3
theorem flaw_all {c : Nat → Nat → Int} (hc : Ord c) (n : Nat) : FlawIs n (relB (allP c n n)) [] := by
  refine .none (fun a b hab hb => ?_) (fun a b d ha hb hd => ?_)
  · rintro ⟨h1, h2⟩
    rw [relB_all (by omega) hb] at h1
    rw [relB_all hb (by omega)] at h2
    have h1 := of_decide_eq_false h1
    have h2 := of_decide_eq_false h2
    have := hc.anti a b
    omega
  · rintro ⟨h1, h2, h3⟩
    rw [relB_all ha hb] at h1
    rw [relB_all hb hd] at h2
    rw [relB_all ha hd] at h3
    exact of_decide_eq_false h3 (hc.trans a b d (of_decide_eq_true h1) (of_decide_eq_true h2))
theorem relE_all (c : Nat → Nat → Int) {n : Nat} (hn : n ≤ 60) : relE n (allP c n n) = 0 := by
  have hl := allP_len c n n
  have h2 : n * n ≤ 60 * 60 := Nat.mul_le_mul hn hn
  refine (relE_ok (by omega) (by omega) ?_).1
  rintro ⟨p, h1, h3⟩
  obtain ⟨x, y, g1, g2, _, rfl⟩ := allP_mem h1
  unfold OutP at h3
  simp only at h3
  omega
theorem tot_all {c : Nat → Nat → Int} (hc : Ord c) {n : Nat} (hn : n ≤ 60) : totV n (allP c n n) = .atom (.slice none 0 0) ∧ totB n (allP c n n) = true := by
  have he := relE_all c hn
  have hf := flaw_all hc n
  refine ⟨?_, ?_⟩
  · unfold totV; rw [if_pos he, Int.toNat_natCast]; exact flawV_nil hf
  · rw [totB_flaw he, Int.toNat_natCast, flawS_eq hf]; exact tB_yes rfl
def cnt (c : Nat → Nat → Int) (x b : Nat) : Nat := ((List.range b).filter fun y => decide (c y x < 0)).length
theorem cnt_succ (c : Nat → Nat → Int) (x b : Nat) : cnt c x (b + 1) = cnt c x b + if c b x < 0 then 1 else 0 := by
  unfold cnt
  rw [List.range_succ, List.filter_append, List.length_append]
  by_cases h : c b x < 0 <;> simp [h]
def cntL (c : Nat → Nat → Int) (n : Nat) : List Int := (List.range n).map fun x => (cnt c x n : Int)
theorem cntL_len (c : Nat → Nat → Int) (n : Nat) : (cntL c n).length = n := by simp [cntL]
theorem cntL_li {c : Nat → Nat → Int} {n x : Nat} (h : x < n) : li (cntL c n) x = (cnt c x n : Int) := by simp [cntL, li, List.getD_eq_getElem?_getD, h]
theorem rank_all {c : Nat → Nat → Int} (hc : Ord c) {n : Nat} (hn : n ≤ 60) : rankE n (allP c n n) = 0 ∧ rankV n (allP c n n) = ints (cntL c n) := by
  have he := relE_all c hn
  have ht := (tot_all hc hn).2
  have e : rankE n (allP c n n) = 0 := by unfold rankE; rw [if_neg (by rw [he]; decide), if_pos ht]
  refine ⟨e, ?_⟩
  unfold rankV rankR
  rw [if_pos e, if_pos e, Int.toNat_natCast]
  congr 1
  unfold ranks cntL
  refine List.map_congr_left fun a ha => ?_
  have ha := List.mem_range.1 ha
  unfold lessR cnt
  congr 2
  refine List.filter_congr fun b hb => ?_
  have hb := List.mem_range.1 hb
  rw [relB_all hb ha, relB_all ha hb]
  have := hc.anti a b
  rw [Bool.eq_iff_iff]
  simp only [Bool.and_eq_true, Bool.not_eq_true', decide_eq_true_eq, decide_eq_false_iff_not]
  omega
theorem cnt_mono {c : Nat → Nat → Int} (hc : Ord c) {a b : Nat} (h : c a b ≤ 0) (n : Nat) : cnt c a n ≤ cnt c b n := by
  unfold cnt
  induction n with
  | zero => exact Nat.le_refl _
  | succ n ih =>
    rw [List.range_succ, List.filter_append, List.filter_append, List.length_append, List.length_append]
    refine Nat.add_le_add ih ?_
    by_cases h1 : c n a < 0
    · have h2 : c n b < 0 := by
        have := hc.trans n a b (by omega) h
        have h3 := hc.anti n b
        have h4 : c b n ≤ 0 → c a n ≤ 0 := fun g => hc.trans a b n h g
        have h5 := hc.anti n a
        omega
      simp [h1, h2]
    · simp [h1]
def lessAt (c : Nat → Nat → Int) (n a b : Nat) : List Int := (List.range n).map fun x => if x < a then (cnt c x n : Int) else if x = a then (cnt c a b : Int) else 0
theorem lessAt_len (c : Nat → Nat → Int) (n a b : Nat) : (lessAt c n a b).length = n := by simp [lessAt]
theorem lessAt_li {c : Nat → Nat → Int} {n a b : Nat} (h : a < n) : li (lessAt c n a b) a = (cnt c a b : Int) := by simp [lessAt, li, List.getD_eq_getElem?_getD, h]
theorem lessAt_start (c : Nat → Nat → Int) (n : Nat) : lessAt c n 0 0 = List.replicate n 0 := by
  apply List.ext_getElem
  · simp [lessAt]
  · intro i h1 h2
    simp only [lessAt, List.getElem_map, List.getElem_range, List.getElem_replicate, Nat.not_lt_zero, if_false]
    split
    · rfl
    · rfl
theorem lessAt_row {c : Nat → Nat → Int} {n a : Nat} (h : a < n) : lessAt c n a n = lessAt c n (a + 1) 0 := by
  unfold lessAt
  refine List.map_congr_left fun x hx => ?_
  have hx := List.mem_range.1 hx
  rcases Nat.lt_trichotomy x a with g | g | g
  · rw [if_pos g, if_pos (by omega)]
  · subst g; rw [if_neg (Nat.lt_irrefl _), if_pos rfl, if_pos (Nat.lt_succ_self _)]
  · rw [if_neg (by omega), if_neg (by omega), if_neg (by omega)]
    by_cases h2 : x = a + 1
    · rw [if_pos h2]; rfl
    · rw [if_neg h2]
theorem lessAt_end (c : Nat → Nat → Int) (n : Nat) : lessAt c n n 0 = cntL c n := by
  unfold lessAt cntL
  refine List.map_congr_left fun x hx => ?_
  rw [if_pos (List.mem_range.1 hx)]
theorem lessAt_yes {c : Nat → Nat → Int} {n a b : Nat} (ha : a < n) (h : c b a < 0) : (lessAt c n a b).set a ((cnt c a b : Int) + 1) = lessAt c n a (b + 1) := by
  apply List.ext_getElem
  · simp [lessAt]
  · intro i h1 h2
    rw [List.getElem_set]
    simp only [lessAt, List.getElem_map, List.getElem_range]
    by_cases g : a = i
    · subst g
      rw [if_pos rfl, if_neg (Nat.lt_irrefl _), if_pos rfl, cnt_succ, if_pos h]
      rfl
    · rw [if_neg g]
      by_cases g2 : i < a
      · rw [if_pos g2, if_pos g2]
      · rw [if_neg g2, if_neg g2, if_neg (fun e => g e.symm), if_neg (fun e => g e.symm)]
theorem lessAt_no {c : Nat → Nat → Int} {n a b : Nat} (h : ¬ c b a < 0) : lessAt c n a b = lessAt c n a (b + 1) := by
  unfold lessAt
  refine List.map_congr_left fun x hx => ?_
  rw [cnt_succ, if_neg h]
  rfl
end Go.Proofs.YtfnkciboencifaaDoor
set_option linter.all false
namespace Go.Proofs.YtfnkciboencifaaDoor
open Go Go.RowKit
set_option linter.unusedSimpArgs false
set_option linter.unusedVariables false
theorem down_above {p : Nat → Bool} : ∀ n j, down p n ≤ j → j < n → p j = true
  | 0, j, _, h => absurd h (Nat.not_lt_zero _)
  | n + 1, j, h1, h2 => by
    rw [down] at h1
    by_cases hp : p n = true
    · rw [if_pos hp] at h1
      rcases Nat.lt_succ_iff_lt_or_eq.1 h2 with h | rfl
      · exact down_above n j h1 h
      · exact hp
    · rw [if_neg hp] at h1; omega
theorem down_below {p : Nat → Bool} : ∀ n, 0 < down p n → p (down p n - 1) = false
  | 0, h => absurd h (Nat.lt_irrefl _)
  | n + 1, h => by
    rw [down] at h ⊢
    by_cases hp : p n = true
    · rw [if_pos hp] at h ⊢; exact down_below n h
    · rw [if_neg hp]
      simpa using hp
theorem insAt_perm {α : Type} (l : List α) (k : Nat) (x : α) : (insAt l k x).Perm (x :: l) := by
  unfold insAt
  exact List.perm_middle.trans (by rw [List.take_append_drop])
theorem insC_perm (lt : Int → Int → Bool) (A : List Int) (x : Int) : (insC lt A x).Perm (x :: A) := insAt_perm ..
theorem foldl_insC_perm (lt : Int → Int → Bool) : ∀ xs A : List Int, (xs.foldl (insC lt) A).Perm (A ++ xs)
  | [], A => by simp
  | x :: xs, A => by
    rw [List.foldl_cons]
    refine (foldl_insC_perm lt xs _).trans ?_
    refine ((insC_perm lt A x).append_right xs).trans ?_
    exact List.perm_middle.symm
theorem sortedL_perm (c : Int → Int → Int) (l : List Int) : (sortedL c l).Perm l := by
  rw [sortedL_fold]; simpa using foldl_insC_perm (ltc c) l []
def SortedI (c : Int → Int → Int) (A : List Int) : Prop := A.Pairwise fun a b => c a b ≤ 0
structure OrdI (c : Int → Int → Int) : Prop where
  anti : ∀ a b, c a b = - c b a
  trans : ∀ a b d, c a b ≤ 0 → c b d ≤ 0 → c a d ≤ 0
theorem insC_sorted {c : Int → Int → Int} (hc : OrdI c) {A : List Int} (h : SortedI c A) (x : Int) : SortedI c (insC (ltc c) A x) := by
  unfold insC
  generalize hk : down (fun j => ltc c x (li A j)) A.length = k
  have hkl : k ≤ A.length := by rw [← hk]; exact down_le _ _
  have hab : ∀ j, k ≤ j → j < A.length → c x (li A j) < 0 := fun j h1 h2 => of_decide_eq_true (down_above (p := fun j => ltc c x (li A j)) A.length j (by rw [hk]; exact h1) h2)
  have hbe : 0 < k → ¬ c x (li A (k - 1)) < 0 := fun h1 => by
    have := down_below (p := fun j => ltc c x (li A j)) A.length (by rw [hk]; exact h1)
    rw [hk] at this
    exact of_decide_eq_false this
  have hli : ∀ j (hj : j < A.length), li A j = A[j] := fun j hj => by simp [li, List.getD_eq_getElem?_getD, hj]
  unfold insAt SortedI
  have hA : (A.take k ++ A.drop k).Pairwise fun a b => c a b ≤ 0 := by rw [List.take_append_drop]; exact h
  rw [List.pairwise_append] at hA ⊢
  obtain ⟨p1, p2, p3⟩ := hA
  refine ⟨p1, List.pairwise_cons.2 ⟨fun b hb => ?_, p2⟩, fun a ha b hb => ?_⟩
  · obtain ⟨j, hj, rfl⟩ := List.getElem_of_mem hb
    have hj2 : k + j < A.length := by rw [List.length_drop] at hj; omega
    have := hab (k + j) (by omega) hj2
    rw [hli _ hj2] at this
    rw [List.getElem_drop]; omega
  · rcases List.mem_cons.1 hb with rfl | hb
    · obtain ⟨j, hj, rfl⟩ := List.getElem_of_mem ha
      have hj2 : j < k := by rw [List.length_take] at hj; omega
      have h1 := hbe (by omega)
      rw [hli _ (by omega)] at h1
      rw [List.getElem_take]
      have h2 : c A[k - 1] b ≤ 0 := by have := hc.anti A[k - 1] b; omega
      by_cases hjk : j = k - 1
      · subst hjk; exact h2
      · refine hc.trans _ _ _ ?_ h2
        exact List.pairwise_iff_getElem.1 h j (k - 1) (by omega) (by omega) (by omega)
    · exact p3 a ha b hb
theorem foldl_insC_sorted {c : Int → Int → Int} (hc : OrdI c) : ∀ (xs A : List Int), SortedI c A → SortedI c (xs.foldl (insC (ltc c)) A)
  | [], A, h => h
  | x :: xs, A, h => foldl_insC_sorted hc xs _ (insC_sorted hc h x)
theorem sortedL_sorted {c : Int → Int → Int} (hc : OrdI c) (l : List Int) : SortedI c (sortedL c l) := by
  rw [sortedL_fold]; exact foldl_insC_sorted hc l [] List.Pairwise.nil
theorem keyC_ord (ks : List (List Int)) : OrdI (keyC ks) := ⟨fun a b => lexi_anti _ _, fun a b d => lexi_trans _ _ _⟩
theorem insC_congr {lt lt' : Int → Int → Bool} {A : List Int} {x : Int} (h : ∀ y, y ∈ A → lt x y = lt' x y) : insC lt A x = insC lt' A x := by
  unfold insC
  rw [down_congr A.length fun j hj => h _ (li_mem hj)]
theorem foldl_insC_congr {lt lt' : Int → Int → Bool} {R : Int → Prop} (h : ∀ x y, R x → R y → lt x y = lt' x y) : ∀ (xs A : List Int), (∀ x, x ∈ xs → R x) → (∀ x, x ∈ A → R x) → xs.foldl (insC lt) A = xs.foldl (insC lt') A
  | [], _, _, _ => rfl
  | x :: xs, A, h1, h2 => by
    rw [List.foldl_cons, List.foldl_cons, insC_congr fun y hy => h x y (h1 x (List.mem_cons_self ..)) (h2 y hy)]
    refine foldl_insC_congr h xs _ (fun y hy => h1 y (List.mem_cons_of_mem _ hy)) fun y hy => ?_
    rcases insC_mem hy with rfl | hy
    · exact h1 _ (List.mem_cons_self ..)
    · exact h2 y hy
def singleL (B : List ByteArray) : List (List ByteArray) := B.map fun x => [x]
theorem singleL_len (B : List ByteArray) : (singleL B).length = B.length := by simp [singleL]
theorem singleL_mem {B : List ByteArray} {p : List ByteArray} (h : p ∈ singleL B) : ∃ x, x ∈ B ∧ p = [x] := by
  obtain ⟨x, h1, h2⟩ := List.mem_map.1 h
  exact ⟨x, h1, h2.symm⟩
theorem sorted_single (s : SpecD) (B : List ByteArray) : nI (pathsS s (singleL B)) = sortedL (keyC (B.map (keyOf s))) (nI (List.range B.length)) := by
  rw [← sortedL_paths, singleL_len, sortedL_fold, sortedL_fold]
  refine foldl_insC_congr (R := fun x => 0 ≤ x ∧ x < B.length) (fun x y hx hy => ?_) _ _ (fun x hx => ?_) (fun x hx => by cases hx)
  · obtain ⟨a, rfl⟩ : ∃ a : Nat, x = a := ⟨x.toNat, by omega⟩
    obtain ⟨b, rfl⟩ : ∃ b : Nat, y = b := ⟨y.toNat, by omega⟩
    have ha : a < B.length := by omega
    have hb : b < B.length := by omega
    unfold ltc keyC2 keyC pathsK singleL
    have e : ∀ {a}, a < B.length → ((B.map fun x => [x]).map fun p => p.map (keyOf s)).getD a [] = [(B.map (keyOf s)).getD a []] := fun h => by simp [List.getD_eq_getElem?_getD, h]
    rw [Int.toNat_natCast, Int.toNat_natCast, e ha, e hb]
    have : ∀ u v : List Int, lexL [u] [v] = lexi u v := fun u v => by
      show (if lexi u v ≠ 0 then lexi u v else 0) = _
      by_cases h : lexi u v = 0
      · rw [if_neg (by rw [h]; simp), h]
      · rw [if_pos h]
    rw [this]
  · obtain ⟨a, h1, rfl⟩ := mem_nI hx
    have := List.mem_range.1 h1
    omega
structure OrderI (c : Nat → Nat → Int) (n : Nat) (o : List Int) : Prop where
  len : o.length = n
  rng : ∀ k, k < n → 0 ≤ li o k ∧ li o k < n
  nodup : o.Nodup
  sorted : ∀ k, 0 < k → k < n → c (li o (k - 1)).toNat (li o k).toNat ≤ 0
theorem order_is (s : SpecD) (B : List ByteArray) : OrderI (keyN s B) B.length (sortedL (keyC (B.map (keyOf s))) (nI (List.range B.length))) := by
  have hl : (sortedL (keyC (B.map (keyOf s))) (nI (List.range B.length))).length = B.length := by rw [sortedL_len, nI_len, List.length_range]
  have hr : ∀ k, k < B.length → 0 ≤ li (sortedL (keyC (B.map (keyOf s))) (nI (List.range B.length))) k ∧ li (sortedL (keyC (B.map (keyOf s))) (nI (List.range B.length))) k < B.length := fun k hk => sorted_at (by rw [hl]; exact hk)
  refine ⟨hl, hr, ?_, fun k h0 hk => ?_⟩
  · refine (sortedL_perm _ _).nodup_iff.2 ?_
    unfold nI
    exact List.Pairwise.map _ (fun a b h e => h (by omega)) List.nodup_range
  · have hs := sortedL_sorted (keyC_ord (B.map (keyOf s))) (nI (List.range B.length))
    generalize sortedL (keyC (B.map (keyOf s))) (nI (List.range B.length)) = o at hl hr hs
    have h1 := List.pairwise_iff_getElem.1 hs (k - 1) k (by omega) (by omega) (by omega)
    have e1 : li o (k - 1) = o[k - 1] := by have : k - 1 < o.length := by omega
                                            simp [li, List.getD_eq_getElem?_getD, this]
    have e2 : li o k = o[k] := by have : k < o.length := by omega
                                  simp [li, List.getD_eq_getElem?_getD, this]
    have g1 := hr (k - 1) (by omega)
    have g2 := hr k hk
    rw [← e1, ← e2] at h1
    have e : ∀ {a : Nat}, a < B.length → (B.map (keyOf s)).getD a [] = keyOf s (ls B a) := fun h => by simp [ls, List.getD_eq_getElem?_getD, h]
    unfold keyC at h1
    rw [e (by omega), e (by omega)] at h1
    exact h1
def metL (n : Nat) (o : List Int) (i : Nat) : List Bool := (List.range n).map fun (x : Nat) => decide ((x : Int) ∈ o.take i)
theorem metL_len (n : Nat) (o : List Int) (i : Nat) : (metL n o i).length = n := by simp [metL]
theorem metL_at {c : Nat → Nat → Int} {n : Nat} {o : List Int} (h : OrderI c n o) {i : Nat} (hi : i < n) : (metL n o i).getD (li o i).toNat false = false := by
  have hr := h.rng i hi
  have hx : (li o i).toNat < n := by omega
  have e : (metL n o i).getD (li o i).toNat false = decide ((((li o i).toNat : Nat) : Int) ∈ o.take i) := by simp [metL, List.getD_eq_getElem?_getD, hx]
  rw [e]
  refine decide_eq_false fun hm => ?_
  obtain ⟨j, hj, he⟩ := List.getElem_of_mem hm
  rw [List.length_take] at hj
  rw [List.getElem_take] at he
  have hil : i < o.length := by rw [h.len]; exact hi
  have e2 : li o i = o[i] := by simp [li, List.getD_eq_getElem?_getD, hil]
  have hnd := List.pairwise_iff_getElem.1 h.nodup j i (by omega) hil (by omega)
  apply hnd
  rw [he, ← e2]; omega
theorem metL_set {c : Nat → Nat → Int} {n : Nat} {o : List Int} (h : OrderI c n o) {i : Nat} (hi : i < n) : (metL n o i).set (li o i).toNat true = metL n o (i + 1) := by
  have hr := h.rng i hi
  have hil : i < o.length := by rw [h.len]; exact hi
  have e2 : li o i = o[i] := by simp [li, List.getD_eq_getElem?_getD, hil]
  apply List.ext_getElem
  · simp [metL]
  · intro x h1 h2
    rw [List.getElem_set]
    simp only [metL, List.getElem_map, List.getElem_range]
    rw [← List.take_append_getElem hil, ← e2]
    by_cases g : (li o i).toNat = x
    · rw [if_pos g]
      have : (x : Int) = li o i := by omega
      rw [this]; simp
    · rw [if_neg g]
      have : (x : Int) ≠ li o i := by omega
      simp [this]
theorem metL_start (n : Nat) (o : List Int) : metL n o 0 = List.replicate n false := by
  apply List.ext_getElem
  · simp [metL]
  · intro i h1 h2; simp [metL]
end Go.Proofs.YtfnkciboencifaaDoor
set_option linter.all false
namespace Go.Proofs.YtfnkciboencifaaDoor
open Go Go.RowKit
set_option linter.unusedSimpArgs false
set_option linter.unusedVariables false
set_option maxRecDepth 20000
set_option maxHeartbeats 4000000
theorem leqW36 {p : Prop} (h : p := by (refine ⟨4, ?_, ?_, rfl, by simp, rfl, fun _ h _ => absurd h (Nat.not_lt_zero _)⟩ <;> (simp only [List.forall_mem_cons]; repeat' (first | refine And.intro ?_ ?_ | (intro p hp; exact absurd hp List.not_mem_nil) | rfl | exact sp (pure_pairs _) | exact sp (pure_paths _) | exact sp (pure_spec _) | exact (sealed_pure _ _ _ (pure_ints _)).trans (ren_ints _ _).symm | exact (sealed_pure _ _ _ (pure_strs _)).trans (ren_strs _ _).symm | exact sp (by assumption) | (intro o ho; cases ho; refine ⟨by decide, ?_⟩; first | (refine LeqS.row rfl ?_ ?_; (next => (first | rfl | (simp only [List.map_append, List.map_cons, List.map_nil, List.append_nil, List.nil_append, List.append_assoc, List.cons_append, encI, encS, ints, strs]; done) | (simp [encI, encS, ints, strs, totT, encP, singleL]; done))); (next => (first | rfl | exact pureL_encI _ | exact pureL_encS _ | exact pureL_ints _ | exact pureL_strs _ | exact pureL_encP _ | exact pureL_strs _ | exact pureL_encO _ | (simp [pureL_append, pureL_encI, pureL_encS, pureL_ints, pureL_strs, pureL, PV.pure, pure_ints, pure_strs, pure_pairs, pureL_encP, pure_paths, pureL_strs, pureL_encO, pure_spec]; done))); done) | refine ⟨_, rfl, rfl, ?_⟩) | (simp [St.born, St.known, retV, St.get, St.obj, lk, sealed, PV.ren, renL, rmap, AO.ren, ints, strs, encI, encS, map_sealed_encI, map_sealed_encS, map_sealed_ints, map_sealed_strs, map_ren_encI, map_ren_encS, map_ren_ints, map_ren_strs, renL_encI, renL_encS, renL_ints, renL_strs, take_map_len, pairs, renL_encP, map_sealed_encP, map_ren_encP, encP, paths, ren_spec] <;> omega))))) : p := h
theorem lsrW36 {p : Prop} (h : p := by (first | rfl | (simp [St.born, St.known, retV, St.get, St.obj, lk, sealed, PV.ren, renL, rmap, AO.ren, ints, strs, encI, encS, map_sealed_encI, map_sealed_encS, map_sealed_ints, map_sealed_strs, map_ren_encI, map_ren_encS, map_ren_ints, map_ren_strs, renL_encI, renL_encS, renL_ints, renL_strs, take_map_len, pairs, renL_encP, map_sealed_encP, map_ren_encP, encP, paths, ren_spec]; done))) : p := h
theorem lpvW36 {p : Prop} (h : p := by (first | rfl | (simp [pure_ints, pure_strs, PV.pure, pureL, pureL_encI, pureL_encS, pureL_ints, pureL_strs, pure_pairs, pureL_encP, pure_paths, pureL_strs, pureL_encO, pure_spec]; done))) : p := h
theorem made_valid (l : List Int) : validE (madeS l) = 0 := by
  have h : ∀ (a : Fin 4) (b : Fin 4) (d : Fin 3) (w n : Bool), Elder.validD (toE ⟨w, madeSk (a.1 : Int), n, madeO (b.1 : Int) (d.1 : Int)⟩) = 0 := by decide +kernel
  have h20 := atI_lo (l := l) (i := 2) (m := 4) (by decide)
  have h21 := atI_hi (l := l) (i := 2) (m := 4) (by decide)
  have h30 := atI_lo (l := l) (i := 3) (m := 4) (by decide)
  have h31 := atI_hi (l := l) (i := 3) (m := 4) (by decide)
  have h40 := atI_lo (l := l) (i := 4) (m := 3) (by decide)
  have h41 := atI_hi (l := l) (i := 4) (m := 3) (by decide)
  rw [← validD_eq]
  unfold madeS
  have := h ⟨(atI l 2 4).toNat, by omega⟩ ⟨(atI l 3 4).toNat, by omega⟩ ⟨(atI l 4 3).toNat, by omega⟩ (decide (atI l 0 2 = 0)) (decide (atI l 1 2 = 0))
  simp only [Int.toNat_of_nonneg h20, Int.toNat_of_nonneg h30, Int.toNat_of_nonneg h40] at this
  exact this
def totT (m : List Int) (raw : ByteArray) : List ByteArray := textsN m (textC m.length 7) ++ [raw.extract 0 (min raw.size 40)]
theorem totT_len (m : List Int) (raw : ByteArray) : (totT m raw).length = textC m.length 7 + 1 := by simp [totT, textsN_len]
theorem totT_enc (m : List Int) (raw : ByteArray) : (totT m raw).map encS = (textsN m (textC m.length 7)).map encS ++ [PV.atom (.string (raw.extract 0 (min raw.size 40)))] := by simp [totT, encS]
theorem totT_size (m : List Int) (raw : ByteArray) : ∀ x, x ∈ totT m raw → x.size ≤ 4096 := by
  intro x hx
  rcases List.mem_append.1 hx with hx | hx
  · have := textsN_size m _ x hx; omega
  · rw [List.mem_singleton.1 hx]; have := short_size raw 40; omega
theorem lessAt_set {c : Nat → Nat → Int} {n a b : Nat} (ha : a < n) (h : c b a < 0) : ((lessAt c n a b).map encI).set a (PV.atom (.int .i64 ((cnt c a b : Int) + 1))) = (lessAt c n a (b + 1)).map encI := by
  rw [← lessAt_yes ha h, List.map_set]; rfl
theorem take_single {B : List ByteArray} {i : Nat} (h : i < B.length) : (singleL B).take i ++ [[ls B i]] = (singleL B).take (i + 1) := by
  have hi : i < (singleL B).length := by rw [singleL_len]; exact h
  rw [← List.take_append_getElem hi]
  congr 2
  have e : (singleL B)[i] = [B[i]] := List.getElem_map ..
  rw [e, ls_get h]
theorem zeros_less (c : Nat → Nat → Int) (n : Nat) : List.replicate n (PV.atom (.int .i64 0)) = (lessAt c n 0 0).map encI := by
  rw [lessAt_start, List.map_replicate]; rfl
theorem falses_met (n : Nat) (o : List Int) : List.replicate n (PV.atom (.bool false)) = (metL n o 0).map encO := by
  rw [metL_start, List.map_replicate]; rfl
theorem met_set {c : Nat → Nat → Int} {n : Nat} {o : List Int} (h : OrderI c n o) {i : Nat} (hi : i < n) : ((metL n o i).map encO).set (li o i).toNat (PV.atom (.bool true)) = (metL n o (i + 1)).map encO := by
  rw [← metL_set h hi, List.map_set]; rfl
theorem lessAt_li2 {c : Nat → Nat → Int} {n a b : Nat} (h : a < n) : ((lessAt c n a b).map encI).getD a .junk = encI (cnt c a b : Int) := by
  rw [getD_encI (by rw [lessAt_len]; exact h), lessAt_li h]
theorem map_sealed_encP (H : Nat → Option AO) (keep : Nat → Bool) (n : Nat) (l : List (Int × Int)) : (l.map encP).map (sealed H keep n) = l.map encP := map_sealed_pure H keep n (pureL_encP l)
theorem map_ren_encP (ρ : Nat → Nat) (l : List (Int × Int)) : (l.map encP).map (PV.ren ρ) = l.map encP := map_ren_pure ρ (pureL_encP l)
theorem cnt_le (c : Nat → Nat → Int) (x : Nat) : ∀ b, cnt c x b ≤ b
  | 0 => Nat.le_refl _
  | b + 1 => by
    have := cnt_le c x b
    rw [cnt_succ]; split <;> omega
theorem total_pure (l m : List Int) (raw : ByteArray) (hl : Fits l) (hm : Fits m) : Pure Tryd.prog 7 [ints l, ints m, encS raw] (.atom (.bool true)) [] := by
  have htc : textC m.length 7 ≤ 7 := by unfold textC; omega
  have hv := made_valid l
  have hfit := made_fit l
  have hsane := hfit.sane (by decide)
  have htame := hsane.tame
  have hmsp := made_spec l
  refine Pure.intro (ts := [6]) Tryd.func7 (by kernel_rfl) rfl rfl rfl (Nat.le_of_ble_eq_true rfl) ?_ ?_
  · simp [encI, encS, PV.pure, pure_ints, pure_strs, pureL]
  refine sZ [0, 1, 2] (fun P S K => K ⟨[(0, S.get 0), (1, S.get 1), (2, S.get 2)], S.hp, S.nx, S.gh⟩) fun K hK => ?_
  repeat' (first | (refine hK _ ?_; clear hK K) | ((first | refine xG_intro (fun hg => ?_) (fun hg => ?_) | refine fun (hg : (_ : Prop)) => ?_) <;> ((try simp only [BQ] at hg); try (exfalso; omega))) | refine And.intro ?_ ?_ | exact cl | exact one_encP _ | refine one_take ?_ _ | refine one_drop ?_ _ | (refine st ?_; try simp only [encSpec, pairs, paths, madeP, ren_madeV, sealed_madeV, noOb_madeV, dec_self, beq_self_eq_true]) | simp only [encSpec, pairs, paths, madeP, ren_madeV, sealed_madeV, noOb_madeV, dec_self, beq_self_eq_true])
  all_goals
  refine sZ [1, 2, 7] (fun P S K => XvFnIV P (M S.hp S.nx) (.fn 33 []) [(S.get 0)] (fun r1 e1 => XvFnIV P (M (Eff.hp e1 S.nx S.hp) (S.nx + e1.add.length)) (.fn 14 []) [r1] (fun r2 e2 => XvAlloc P 33 ((S.nx + e1.add.length) + e2.add.length) (fun r3 e3 => XvStore P 33 (M (Eff.hp e3 ((S.nx + e1.add.length) + e2.add.length) (Eff.hp e2 (S.nx + e1.add.length) (Eff.hp e1 S.nx S.hp))) (((S.nx + e1.add.length) + e2.add.length) + e3.add.length)) r3 r2 (fun r4 e4 => K ⟨[(1, S.get 1), (2, S.get 2), (7, r3)], (Eff.hp e4 (((S.nx + e1.add.length) + e2.add.length) + e3.add.length) (Eff.hp e3 ((S.nx + e1.add.length) + e2.add.length) (Eff.hp e2 (S.nx + e1.add.length) (Eff.hp e1 S.nx S.hp)))), ((((S.nx + e1.add.length) + e2.add.length) + e3.add.length) + e4.add.length), S.gh⟩))))) fun K hK => ?_
  repeat' (first | (refine hK _ ?_; clear hK K) | ((first | refine xG_intro (fun hg => ?_) (fun hg => ?_) | refine fun (hg : (_ : Prop)) => ?_) <;> ((try simp only [BQ] at hg); try (exfalso; omega))) | refine And.intro ?_ ?_ | exact cl | exact one_encP _ | refine one_take ?_ _ | refine one_drop ?_ _ | refine .inl ⟨_, _, Made_pure l hl, ?_⟩ | refine ⟨_, _, Made_pure l hl, ?_⟩ | refine .inl ⟨_, _, (own_pure (madeS l)).spec (made_spec l), ?_⟩ | refine ⟨_, _, (own_pure (madeS l)).spec (made_spec l), ?_⟩ | refine .inl ⟨_, _, hcmp a b ha1 hb1, ?_⟩ | refine ⟨_, _, hcmp a b ha1 hb1, ?_⟩ | refine .inl ⟨_, _, hcmp b a hb1 ha1, ?_⟩ | refine ⟨_, _, hcmp b a hb1 ha1, ?_⟩ | refine .inl ⟨_, _, hTot, ?_⟩ | refine ⟨_, _, hTot, ?_⟩ | refine .inl ⟨_, _, hRank, ?_⟩ | refine ⟨_, _, hRank, ?_⟩ | refine .inl ⟨_, _, hSort, ?_⟩ | refine ⟨_, _, hSort, ?_⟩ | refine .inl ⟨_, _, hPaths, ?_⟩ | refine ⟨_, _, hPaths, ?_⟩ | (refine st ?_; try simp only [encSpec, pairs, paths, madeP, ren_madeV, sealed_madeV, noOb_madeV, dec_self, beq_self_eq_true]) | simp only [encSpec, pairs, paths, madeP, ren_madeV, sealed_madeV, noOb_madeV, dec_self, beq_self_eq_true])
  all_goals
  refine Tri.cut (α := Unit) (fun ⟨⟩ => ⟨[(7, .ptr 0 4 0 0), (8, strs (totT m raw))], [(0, some ⟨4, [encSpec (madeS l)]⟩)], 1, []⟩) ?_ ?_
  ·skip
   refine rZ [7, 8] (fun P S K => XvFnIV P (M S.hp S.nx) (.fn 10 []) [(S.get 1), (.atom (.int .i64 7))] (fun r1 e1 => XvFnIV P (M (Eff.hp e1 S.nx S.hp) (S.nx + e1.add.length)) (.fn 11 []) [(S.get 2), (.atom (.int .i64 40))] (fun r3 e3 => XvBuildS P 25 1 ((S.nx + e1.add.length) + e3.add.length) [(0, r3)] (fun r4 e4 => (25 = 25 ∧ XvAppend P 25 (M (Eff.hp e4 ((S.nx + e1.add.length) + e3.add.length) (Eff.hp e3 (S.nx + e1.add.length) (Eff.hp e1 S.nx S.hp))) (((S.nx + e1.add.length) + e3.add.length) + e4.add.length)) r1 r4 (fun r5 e5 => K ⟨[(7, S.get 7), (8, r5)], (Eff.hp e5 (((S.nx + e1.add.length) + e3.add.length) + e4.add.length) (Eff.hp e4 ((S.nx + e1.add.length) + e3.add.length) (Eff.hp e3 (S.nx + e1.add.length) (Eff.hp e1 S.nx S.hp)))), ((((S.nx + e1.add.length) + e3.add.length) + e4.add.length) + e5.add.length), S.gh⟩)))))) fun K hK => ?_
   repeat' (first | (refine hK _ ?_; clear hK K) | ((first | refine xG_intro (fun hg => ?_) (fun hg => ?_) | refine fun (hg : (_ : Prop)) => ?_) <;> ((try simp only [BQ] at hg); try (exfalso; omega))) | refine And.intro ?_ ?_ | exact cl | exact one_encP _ | refine one_take ?_ _ | refine one_drop ?_ _ | refine .inl ⟨_, _, texts_pure m 7 hm (by decide) (by decide), ?_⟩ | refine ⟨_, _, texts_pure m 7 hm (by decide) (by decide), ?_⟩ | refine .inl ⟨_, _, Short_pure raw 40 (by decide), ?_⟩ | refine ⟨_, _, Short_pure raw 40 (by decide), ?_⟩ | refine .inl ⟨_, _, hcmp a b ha1 hb1, ?_⟩ | refine ⟨_, _, hcmp a b ha1 hb1, ?_⟩ | refine .inl ⟨_, _, hcmp b a hb1 ha1, ?_⟩ | refine ⟨_, _, hcmp b a hb1 ha1, ?_⟩ | refine .inl ⟨_, _, hTot, ?_⟩ | refine ⟨_, _, hTot, ?_⟩ | refine .inl ⟨_, _, hRank, ?_⟩ | refine ⟨_, _, hRank, ?_⟩ | refine .inl ⟨_, _, hSort, ?_⟩ | refine ⟨_, _, hSort, ?_⟩ | refine .inl ⟨_, _, hPaths, ?_⟩ | refine ⟨_, _, hPaths, ?_⟩ | (refine st ?_; try simp only [encSpec, pairs, paths, madeP, ren_madeV, sealed_madeV, noOb_madeV, dec_self, beq_self_eq_true, textsN_len]) | simp only [encSpec, pairs, paths, madeP, ren_madeV, sealed_madeV, noOb_madeV, dec_self, beq_self_eq_true, textsN_len])
   all_goals
   rw [← totT_enc, ← totT_len m raw]
   refine ⟨(), [0], ?_⟩
   exact leqW36
  ·rintro ⟨⟩
   have hBl : (totT m raw).length ≤ 8 := by rw [totT_len]; omega
   have hBs := totT_size m raw
   generalize totT m raw = B at hBl hBs ⊢
   generalize madeS l = s at hv hsane htame ⊢
   have hord := keyN_ord s B
   have hcr : ∀ a b, -1 ≤ keyN s B a b ∧ keyN s B a b ≤ 1 := fun a b => lexi_rng _ _
   have hcmp0 : ∀ a b, a < B.length → b < B.length → Pure Tryd.prog 20 [encSpec s, encS (ls B a), encS (ls B b)] (.tup [encI (keyN s B a b), encI 0]) [] := fun a b ha hb => by
     have h1 := hBs _ (ls_mem ha)
     have h2 := hBs _ (ls_mem hb)
     have hp := cCompare_pure s (ls B a) (ls B b) htame (by omega) (by omega)
     have e1 := keyE_ok (s := s) (t := ls B a) hv (by omega)
     have e2 := keyE_ok (s := s) (t := ls B b) hv (by omega)
     have e3 : cmpE s (ls B a) (ls B b) = 0 := by unfold cmpE; rw [e1.1, e2.1]; rfl
     have e4 : cmpR s (ls B a) (ls B b) = keyN s B a b := by unfold cmpR; rw [if_pos e3, e1.2, e2.2]; rfl
     rw [e3, e4] at hp
     exact hp
   have hB60 : B.length ≤ 60 := by omega
   have hnx : ¬ ∃ x, x ∈ B ∧ 4096 < x.size := fun ⟨x, h1, h2⟩ => by have := hBs x h1; omega
   have hB2 : ∀ x, x ∈ B → x.size ≤ 9223372036854775807 := fun x h => Nat.le_trans (hBs x h) (by decide)
   have hap := allP_len (keyN s B) B.length B.length
   have hbb : B.length * B.length ≤ 8 * 8 := Nat.mul_le_mul hBl hBl
   have hTot0 := cTotal_pure B.length (allP (keyN s B) B.length B.length) (by omega)
   rw [(tot_all hord hB60).1, (tot_all hord hB60).2, relE_all _ hB60] at hTot0
   have hRank0 := cRank_pure B.length (allP (keyN s B) B.length B.length) (by omega)
   rw [(rank_all hord hB60).1, (rank_all hord hB60).2] at hRank0
   have hSort0 := cSort_pure s B htame (by omega) hB2 (.inl (by omega))
   rw [(sortE_ok hv (by omega) hnx).1, (sortE_ok hv (by omega) hnx).2, ← sortedL_sort hv hnx] at hSort0
   have hPaths0 := cPaths_pure s (singleL B) htame (by rw [singleL_len]; omega) (fun p hp => by obtain ⟨x, _, rfl⟩ := singleL_mem hp; simp) (fun p hp x hx => by obtain ⟨y, h1, rfl⟩ := singleL_mem hp; rw [List.mem_singleton.1 hx]; exact hB2 y h1) (.inl (by rw [singleL_len]; omega))
   have hpe : pathsE s (singleL B) = 0 ∧ pathsR s (singleL B) = nI (pathsS s (singleL B)) := pathsE_ok hv (by rw [singleL_len]; omega) (fun ⟨p, hp, x, hx, h⟩ => by obtain ⟨y, h1, rfl⟩ := singleL_mem hp; rw [List.mem_singleton.1 hx] at h; have := hBs y h1; omega)
   rw [hpe.1, hpe.2, sorted_single] at hPaths0
   have hoi := order_is s B
   generalize sortedL (keyC (B.map (keyOf s))) (nI (List.range B.length)) = o at hSort0 hPaths0 hoi
   generalize keyN s B = c at hord hcr hcmp0 hTot0 hRank0 hoi hap
   have hcl : (cntL c B.length).length ≤ 9223372036854775807 := by rw [cntL_len]; omega
   have hcmp := hcmp0
   have hTot := hTot0
   have hRank := hRank0
   have hSort := hSort0
   have hPaths := hPaths0
   refine sZ [7, 8, 9] (fun P S K => XvLen P 25 (S.get 8) (fun r1 _ => K ⟨[(7, S.get 7), (8, S.get 8), (9, r1)], S.hp, S.nx, S.gh⟩)) fun K hK => ?_
   repeat' (first | (refine hK _ ?_; clear hK K) | ((first | refine xG_intro (fun hg => ?_) (fun hg => ?_) | refine fun (hg : (_ : Prop)) => ?_) <;> ((try simp only [BQ] at hg); try (exfalso; omega))) | refine And.intro ?_ ?_ | exact cl | exact one_encP _ | refine one_take ?_ _ | refine one_drop ?_ _ | (refine st ?_; try simp only [encSpec, pairs, paths, madeP, ren_madeV, sealed_madeV, noOb_madeV, dec_self, beq_self_eq_true]) | simp only [encSpec, pairs, paths, madeP, ren_madeV, sealed_madeV, noOb_madeV, dec_self, beq_self_eq_true])
   all_goals
   refine sZ [7, 8, 9, 10] (fun P S K => K ⟨[(7, S.get 7), (8, S.get 8), (9, S.get 9), (10, (.atom (.slice none 0 0)))], S.hp, S.nx, S.gh⟩) fun K hK => ?_
   repeat' (first | (refine hK _ ?_; clear hK K) | ((first | refine xG_intro (fun hg => ?_) (fun hg => ?_) | refine fun (hg : (_ : Prop)) => ?_) <;> ((try simp only [BQ] at hg); try (exfalso; omega))) | refine And.intro ?_ ?_ | exact cl | exact one_encP _ | refine one_take ?_ _ | refine one_drop ?_ _ | (refine st ?_; try simp only [encSpec, pairs, paths, madeP, ren_madeV, sealed_madeV, noOb_madeV, dec_self, beq_self_eq_true]) | simp only [encSpec, pairs, paths, madeP, ren_madeV, sealed_madeV, noOb_madeV, dec_self, beq_self_eq_true])
   refine Tri.born 10 2 rfl ?_
   all_goals
   refine sZ [7, 8, 9, 10, 11] (fun P S K => XvMake P 22 (M S.hp S.nx) (S.get 9) (S.get 9) (fun r1 e1 => K ⟨[(7, S.get 7), (8, S.get 8), (9, S.get 9), (10, S.get 10), (11, r1)], (Eff.hp e1 S.nx S.hp), (S.nx + e1.add.length), S.gh⟩)) fun K hK => ?_
   repeat' (first | (refine hK _ ?_; clear hK K) | ((first | refine xG_intro (fun hg => ?_) (fun hg => ?_) | refine fun (hg : (_ : Prop)) => ?_) <;> ((try simp only [BQ] at hg); try (exfalso; omega))) | refine And.intro ?_ ?_ | exact cl | exact one_encP _ | refine one_take ?_ _ | refine one_drop ?_ _ | (refine st ?_; try simp only [encSpec, pairs, paths, madeP, ren_madeV, sealed_madeV, noOb_madeV, dec_self, beq_self_eq_true]) | simp only [encSpec, pairs, paths, madeP, ren_madeV, sealed_madeV, noOb_madeV, dec_self, beq_self_eq_true])
   rw [zeros_less c]
   all_goals
   refine Tri.cut (α := Unit) (fun ⟨⟩ => ⟨[(7, .ptr 0 4 0 0), (8, strs B), (9, encI B.length), (10, pairs (allP c B.length B.length)), (11, ints (cntL c B.length))], [(0, some ⟨4, [encSpec s]⟩)], 1, []⟩) ?_ ?_
   ·skip
    refine sZ [7, 8, 9, 10, 11, 12] (fun P S K => K ⟨[(7, S.get 7), (8, S.get 8), (9, S.get 9), (10, S.get 10), (11, S.get 11), (12, (.atom (.int .i64 0)))], S.hp, S.nx, S.gh⟩) fun K hK => ?_
    repeat' (first | (refine hK _ ?_; clear hK K) | ((first | refine xG_intro (fun hg => ?_) (fun hg => ?_) | refine fun (hg : (_ : Prop)) => ?_) <;> ((try simp only [BQ] at hg); try (exfalso; omega))) | refine And.intro ?_ ?_ | exact cl | exact one_encP _ | refine one_take ?_ _ | refine one_drop ?_ _ | (refine st ?_; try simp only [encSpec, pairs, paths, madeP, ren_madeV, sealed_madeV, noOb_madeV, dec_self, beq_self_eq_true]) | simp only [encSpec, pairs, paths, madeP, ren_madeV, sealed_madeV, noOb_madeV, dec_self, beq_self_eq_true])
    all_goals
    refine Tri.block ?_
    refine Tri.loop (α := (ps : List (Int × Int)) ×' (a : Nat) ×' (a ≤ B.length ∧ ps = allP c B.length a)) (fun z => (fun (ps : List (Int × Int)) (a : Nat) => (⟨[(7, .ptr 0 4 0 0), (8, strs B), (9, encI B.length), (10, .ob 1 2 0 ps.length), (11, .ob 2 1 0 B.length), (12, encI a)], [(0, some ⟨4, [encSpec s]⟩), (1, some ⟨2, ps.map encP⟩), (2, some ⟨1, (lessAt c B.length a 0).map encI⟩)], 3, []⟩ : St)) z.1 z.2.1) (fun z => (fun (ps : List (Int × Int)) (a : Nat) => B.length - a) z.1 z.2.1) ⟨[], 0, ⟨Nat.zero_le _, rfl⟩⟩ [0, 1, 2] ?_ ?_
    ·exact leqW36
    ·rintro ⟨ps, a, ⟨ha, hps⟩⟩
     refine Tri.seq ?_
     refine sZ [7, 8, 9, 10, 11, 12, 46] (fun P S K => XvBinOV P .lss 3 (.tmp 45) (S.get 12) (S.get 9) (fun r2 _ => K ⟨[(7, S.get 7), (8, S.get 8), (9, S.get 9), (10, S.get 10), (11, S.get 11), (12, S.get 12), (46, r2)], S.hp, S.nx, S.gh⟩)) fun K hK => ?_
     repeat' (first | (refine hK _ ?_; clear hK K) | ((first | refine xG_intro (fun hg => ?_) (fun hg => ?_) | refine fun (hg : (_ : Prop)) => ?_) <;> ((try simp only [BQ] at hg); try (exfalso; omega))) | refine And.intro ?_ ?_ | exact cl | exact one_encP _ | refine one_take ?_ _ | refine one_drop ?_ _ | (refine st ?_; try simp only [encSpec, pairs, paths, madeP, ren_madeV, sealed_madeV, noOb_madeV, dec_self, beq_self_eq_true]) | simp only [encSpec, pairs, paths, madeP, ren_madeV, sealed_madeV, noOb_madeV, dec_self, beq_self_eq_true])
     all_goals
     refine Tri.cond rfl (fun h46 => ?_) (fun h46 => ?_)
     ·try (cases h46; done)
      all_goals (try simp only [CQ] at h46)
      all_goals
      refine Tri.skip ?_
      refine Tri.seq ?_
      refine Tri.block ?_
      have ha1 : a < B.length := by omega
      refine sZ [7, 8, 9, 10, 11, 12, 13] (fun P S K => K ⟨[(7, S.get 7), (8, S.get 8), (9, S.get 9), (10, S.get 10), (11, S.get 11), (12, S.get 12), (13, (.atom (.int .i64 0)))], S.hp, S.nx, S.gh⟩) fun K hK => ?_
      repeat' (first | (refine hK _ ?_; clear hK K) | ((first | refine xG_intro (fun hg => ?_) (fun hg => ?_) | refine fun (hg : (_ : Prop)) => ?_) <;> ((try simp only [BQ] at hg); try (exfalso; omega))) | refine And.intro ?_ ?_ | exact cl | exact one_encP _ | refine one_take ?_ _ | refine one_drop ?_ _ | (refine st ?_; try simp only [encSpec, pairs, paths, madeP, ren_madeV, sealed_madeV, noOb_madeV, dec_self, beq_self_eq_true]) | simp only [encSpec, pairs, paths, madeP, ren_madeV, sealed_madeV, noOb_madeV, dec_self, beq_self_eq_true])
      all_goals
      refine Tri.block ?_
      refine Tri.loop (α := (qs : List (Int × Int)) ×' (b : Nat) ×' (b ≤ B.length ∧ qs = allP c B.length a ++ rowP c a b)) (fun z => (fun (qs : List (Int × Int)) (b : Nat) => (⟨[(7, .ptr 0 4 0 0), (8, strs B), (9, encI B.length), (10, .ob 1 2 0 qs.length), (11, .ob 2 1 0 B.length), (12, encI a), (13, encI b)], [(0, some ⟨4, [encSpec s]⟩), (1, some ⟨2, qs.map encP⟩), (2, some ⟨1, (lessAt c B.length a b).map encI⟩)], 3, []⟩ : St)) z.1 z.2.1) (fun z => (fun (qs : List (Int × Int)) (b : Nat) => B.length - b) z.1 z.2.1) ⟨ps, 0, ⟨Nat.zero_le _, by rw [hps]; simp [rowP]⟩⟩ [0, 1, 2] ?_ ?_
      ·exact leqW36
      ·rintro ⟨qs, b, ⟨hb, hqs⟩⟩
       refine Tri.seq ?_
       refine sZ [7, 8, 9, 10, 11, 12, 13, 51] (fun P S K => XvBinOV P .lss 3 (.tmp 50) (S.get 13) (S.get 9) (fun r2 _ => K ⟨[(7, S.get 7), (8, S.get 8), (9, S.get 9), (10, S.get 10), (11, S.get 11), (12, S.get 12), (13, S.get 13), (51, r2)], S.hp, S.nx, S.gh⟩)) fun K hK => ?_
       repeat' (first | (refine hK _ ?_; clear hK K) | ((first | refine xG_intro (fun hg => ?_) (fun hg => ?_) | refine fun (hg : (_ : Prop)) => ?_) <;> ((try simp only [BQ] at hg); try (exfalso; omega))) | refine And.intro ?_ ?_ | exact cl | exact one_encP _ | refine one_take ?_ _ | refine one_drop ?_ _ | (refine st ?_; try simp only [encSpec, pairs, paths, madeP, ren_madeV, sealed_madeV, noOb_madeV, dec_self, beq_self_eq_true]) | simp only [encSpec, pairs, paths, madeP, ren_madeV, sealed_madeV, noOb_madeV, dec_self, beq_self_eq_true])
       all_goals
       refine Tri.cond rfl (fun h51 => ?_) (fun h51 => ?_)
       ·try (cases h51; done)
        all_goals (try simp only [CQ] at h51)
        all_goals
        refine Tri.skip ?_
        refine Tri.cut (α := (qs2 : List (Int × Int)) ×' (qs2 = allP c B.length a ++ rowP c a (b + 1))) (fun ⟨qs2, hqs2⟩ => ⟨[(7, .ptr 0 4 0 0), (8, strs B), (9, encI B.length), (10, .ob 1 2 0 qs2.length), (11, .ob 2 1 0 B.length), (12, encI a), (13, encI b)], [(0, some ⟨4, [encSpec s]⟩), (1, some ⟨2, qs2.map encP⟩), (2, some ⟨1, (lessAt c B.length a (b + 1)).map encI⟩)], 3, []⟩) ?_ ?_
        ·skip
         refine Tri.block ?_
         have hb1 : b < B.length := by omega
         have hab1 := hord.anti a b
         have hab2 := hcr a b
         have hab3 := hcr b a
         have hab4 : (a : Int) = b → c a b = 0 := fun h => by have e : a = b := (by omega); rw [e]; exact hord.refl b
         have hql : qs.length ≤ 100 := by
           have h1 := allP_len c B.length a
           have h2 := rowP_len c a b
           have h3 : a * B.length ≤ 8 * 8 := Nat.mul_le_mul (by omega) hBl
           rw [hqs, List.length_append]; omega
         refine sD 15 [7, 8, 9, 10, 11, 12, 13, 14, 15] (fun P GD S K => XvLoad P 33 (M S.hp S.nx) (S.get 7) (fun r0 e0 => XvIndexAddr P 25 (S.get 8) (S.get 12) (fun r3 e3 => XvLoad P 9 (M S.hp S.nx) r3 (fun r4 e4 => XvIndexAddr P 25 (S.get 8) (S.get 13) (fun r7 e7 => XvLoad P 9 (M S.hp S.nx) r7 (fun r8 e8 => XvFnV P (M S.hp S.nx) (.fn 20 []) [r0, r4, r8] (fun r9 e9 => XvExtract r9 0 (fun r11 e11 => XvExtract r9 1 (fun r12 e12 => (trOk S.nx GD [⟨S.nx, 0, e0.rd, [], []⟩, ⟨S.nx, 0, [], [], []⟩, ⟨S.nx, 0, [], [], []⟩, ⟨S.nx, 0, e3.rd, [], []⟩, ⟨S.nx, 0, e4.rd, [], []⟩, ⟨S.nx, 0, [], [], []⟩, ⟨S.nx, 0, [], [], []⟩, ⟨S.nx, 0, e7.rd, [], []⟩, ⟨S.nx, 0, e8.rd, [], []⟩, (Eff.tr e9 S.nx), ⟨(S.nx + e9.add.length), 0, [], [], []⟩, ⟨(S.nx + e9.add.length), 0, e11.rd, [], []⟩, ⟨(S.nx + e9.add.length), 0, e12.rd, [], []⟩, ⟨(S.nx + e9.add.length), 0, [], [], []⟩, ⟨(S.nx + e9.add.length), 0, [], [], []⟩] = true ∧ K ⟨[(7, S.get 7), (8, S.get 8), (9, S.get 9), (10, S.get 10), (11, S.get 11), (12, S.get 12), (13, S.get 13), (14, r11), (15, r12)], (Eff.hp e9 S.nx S.hp), (S.nx + e9.add.length), S.gh⟩)))))))))) fun K hK => ?_
         repeat' (first | (refine hK _ ?_; clear hK K) | (refine (?_ : trOk _ _ _ = true); kernel_rfl) | ((first | refine xG_intro (fun hg => ?_) (fun hg => ?_) | refine fun (hg : (_ : Prop)) => ?_) <;> ((try simp only [BQ] at hg); try (exfalso; omega))) | refine And.intro ?_ ?_ | exact cl | exact one_encP _ | refine one_take ?_ _ | refine one_drop ?_ _ | refine .inl ⟨_, _, hcmp a b ha1 hb1, ?_⟩ | refine ⟨_, _, hcmp a b ha1 hb1, ?_⟩ | refine .inl ⟨_, _, hcmp b a hb1 ha1, ?_⟩ | refine ⟨_, _, hcmp b a hb1 ha1, ?_⟩ | refine .inl ⟨_, _, hTot, ?_⟩ | refine ⟨_, _, hTot, ?_⟩ | refine .inl ⟨_, _, hRank, ?_⟩ | refine ⟨_, _, hRank, ?_⟩ | refine .inl ⟨_, _, hSort, ?_⟩ | refine ⟨_, _, hSort, ?_⟩ | refine .inl ⟨_, _, hPaths, ?_⟩ | refine ⟨_, _, hPaths, ?_⟩ | (refine st ?_; try simp only [encSpec, pairs, paths, madeP, ren_madeV, sealed_madeV, noOb_madeV, dec_self, beq_self_eq_true, getD_encS ha1, getD_encS hb1]) | simp only [encSpec, pairs, paths, madeP, ren_madeV, sealed_madeV, noOb_madeV, dec_self, beq_self_eq_true, getD_encS ha1, getD_encS hb1])
         all_goals
         refine sD 15 [7, 8, 9, 10, 11, 12, 13, 14, 15, 16, 17] (fun P GD S K => XvLoad P 33 (M S.hp S.nx) (S.get 7) (fun r0 e0 => XvIndexAddr P 25 (S.get 8) (S.get 13) (fun r3 e3 => XvLoad P 9 (M S.hp S.nx) r3 (fun r4 e4 => XvIndexAddr P 25 (S.get 8) (S.get 12) (fun r7 e7 => XvLoad P 9 (M S.hp S.nx) r7 (fun r8 e8 => XvFnV P (M S.hp S.nx) (.fn 20 []) [r0, r4, r8] (fun r9 e9 => XvExtract r9 0 (fun r11 e11 => XvExtract r9 1 (fun r12 e12 => (trOk S.nx GD [⟨S.nx, 0, e0.rd, [], []⟩, ⟨S.nx, 0, [], [], []⟩, ⟨S.nx, 0, [], [], []⟩, ⟨S.nx, 0, e3.rd, [], []⟩, ⟨S.nx, 0, e4.rd, [], []⟩, ⟨S.nx, 0, [], [], []⟩, ⟨S.nx, 0, [], [], []⟩, ⟨S.nx, 0, e7.rd, [], []⟩, ⟨S.nx, 0, e8.rd, [], []⟩, (Eff.tr e9 S.nx), ⟨(S.nx + e9.add.length), 0, [], [], []⟩, ⟨(S.nx + e9.add.length), 0, e11.rd, [], []⟩, ⟨(S.nx + e9.add.length), 0, e12.rd, [], []⟩, ⟨(S.nx + e9.add.length), 0, [], [], []⟩, ⟨(S.nx + e9.add.length), 0, [], [], []⟩] = true ∧ K ⟨[(7, S.get 7), (8, S.get 8), (9, S.get 9), (10, S.get 10), (11, S.get 11), (12, S.get 12), (13, S.get 13), (14, S.get 14), (15, S.get 15), (16, r11), (17, r12)], (Eff.hp e9 S.nx S.hp), (S.nx + e9.add.length), S.gh⟩)))))))))) fun K hK => ?_
         repeat' (first | (refine hK _ ?_; clear hK K) | (refine (?_ : trOk _ _ _ = true); kernel_rfl) | ((first | refine xG_intro (fun hg => ?_) (fun hg => ?_) | refine fun (hg : (_ : Prop)) => ?_) <;> ((try simp only [BQ] at hg); try (exfalso; omega))) | refine And.intro ?_ ?_ | exact cl | exact one_encP _ | refine one_take ?_ _ | refine one_drop ?_ _ | refine .inl ⟨_, _, hcmp a b ha1 hb1, ?_⟩ | refine ⟨_, _, hcmp a b ha1 hb1, ?_⟩ | refine .inl ⟨_, _, hcmp b a hb1 ha1, ?_⟩ | refine ⟨_, _, hcmp b a hb1 ha1, ?_⟩ | refine .inl ⟨_, _, hTot, ?_⟩ | refine ⟨_, _, hTot, ?_⟩ | refine .inl ⟨_, _, hRank, ?_⟩ | refine ⟨_, _, hRank, ?_⟩ | refine .inl ⟨_, _, hSort, ?_⟩ | refine ⟨_, _, hSort, ?_⟩ | refine .inl ⟨_, _, hPaths, ?_⟩ | refine ⟨_, _, hPaths, ?_⟩ | (refine st ?_; try simp only [encSpec, pairs, paths, madeP, ren_madeV, sealed_madeV, noOb_madeV, dec_self, beq_self_eq_true, getD_encS ha1, getD_encS hb1]) | simp only [encSpec, pairs, paths, madeP, ren_madeV, sealed_madeV, noOb_madeV, dec_self, beq_self_eq_true, getD_encS ha1, getD_encS hb1])
         all_goals
         refine Tri.seq ?_
         refine sZ [7, 8, 9, 10, 11, 12, 13, 14, 16, 108] (fun P S K => XvBinOV P .neq 30 (.const (.int .i64 0)) (S.get 15) (.atom (.int .i64 0)) (fun r1 _ => Xgq r1 false (fun k => k (S.get 17)) (fun g3 r3 => Xgq g3 false (fun k => XvBinOV P .neq 30 (.const (.int .i64 0)) r3 (.atom (.int .i64 0)) (fun r4 _ => k r4)) (fun g4 r4 => XvPick g4 (.atom (.bool true)) r4 (fun r5 _ => Xgq r5 false (fun k => k (S.get 14)) (fun g7 r7 => Xgq g7 false (fun k => k (S.get 16)) (fun g8 r8 => Xgq g8 false (fun k => XvUn .neg r8 (fun r9 _ => k r9)) (fun g9 r9 => Xgq g9 false (fun k => XvBinOV P .neq 3 (.tmp 89) r7 r9 (fun r10 _ => k r10)) (fun g10 r10 => XvPick g10 (.atom (.bool true)) r10 (fun r11 _ => Xgq r11 false (fun k => k (S.get 12)) (fun g13 r13 => Xgq g13 false (fun k => k (S.get 13)) (fun g14 r14 => Xgq g14 false (fun k => XvBinOV P .eql 3 (.tmp 94) r13 r14 (fun r15 _ => k r15)) (fun g15 r15 => Xgq g15 false (fun k => k r15) (fun g16 r16 => Xgq r16 true (fun k => k (S.get 14)) (fun g17 r17 => Xgq g17 true (fun k => XvBinOV P .neq 3 (.const (.int .i64 0)) r17 (.atom (.int .i64 0)) (fun r18 _ => k r18)) (fun g18 r18 => Xgq g16 false (fun k => XvPick g18 r18 (.atom (.bool false)) (fun r19 _ => k r19)) (fun g19 r19 => XvPick g19 (.atom (.bool true)) r19 (fun r20 _ => Xgq r20 false (fun k => k (S.get 14)) (fun g22 r22 => Xgq g22 false (fun k => XvBinOV P .lss 3 (.const (.int .i64 (-1))) r22 (.atom (.int .i64 (-1))) (fun r23 _ => k r23)) (fun g23 r23 => XvPick g23 (.atom (.bool true)) r23 (fun r24 _ => Xgq r24 false (fun k => k (S.get 14)) (fun g26 r26 => Xgq g26 false (fun k => XvBinOV P .gtr 3 (.const (.int .i64 1)) r26 (.atom (.int .i64 1)) (fun r27 _ => k r27)) (fun g27 r27 => XvPick g27 (.atom (.bool true)) r27 (fun r28 _ => K ⟨[(7, S.get 7), (8, S.get 8), (9, S.get 9), (10, S.get 10), (11, S.get 11), (12, S.get 12), (13, S.get 13), (14, S.get 14), (16, S.get 16), (108, r28)], S.hp, S.nx, S.gh⟩)))))))))))))))))))))))) fun K hK => ?_
         repeat' (first | (refine hK _ ?_; clear hK K) | ((first | refine xG_intro (fun hg => ?_) (fun hg => ?_) | refine fun (hg : (_ : Prop)) => ?_) <;> ((try simp only [BQ] at hg); try (exfalso; omega))) | refine And.intro ?_ ?_ | exact cl | exact one_encP _ | refine one_take ?_ _ | refine one_drop ?_ _ | (refine st ?_; try simp only [encSpec, pairs, paths, madeP, ren_madeV, sealed_madeV, noOb_madeV, dec_self, beq_self_eq_true, (show IntKind.i64.wrap (- c b a) = c a b by rw [wrap_id (by omega) (by omega)]; omega)]) | simp only [encSpec, pairs, paths, madeP, ren_madeV, sealed_madeV, noOb_madeV, dec_self, beq_self_eq_true, (show IntKind.i64.wrap (- c b a) = c a b by rw [wrap_id (by omega) (by omega)]; omega)])
         all_goals try simp (disch := omega) only [wrap_id, wrap8_id]
         all_goals
         refine Tri.cond rfl (fun h108 => ?_) (fun h108 => ?_)
         ·try (cases h108; done)
          all_goals (try simp only [CQ] at h108)
          all_goals
          refine sZ [6] (fun P S K => K ⟨[(6, (.atom (.bool false)))], S.hp, S.nx, S.gh⟩) fun K hK => ?_
          repeat' (first | (refine hK _ ?_; clear hK K) | ((first | refine xG_intro (fun hg => ?_) (fun hg => ?_) | refine fun (hg : (_ : Prop)) => ?_) <;> ((try simp only [BQ] at hg); try (exfalso; omega))) | refine And.intro ?_ ?_ | exact cl | exact one_encP _ | refine one_take ?_ _ | refine one_drop ?_ _ | (refine st ?_; try simp only [encSpec, pairs, paths, madeP, ren_madeV, sealed_madeV, noOb_madeV, dec_self, beq_self_eq_true]) | simp only [encSpec, pairs, paths, madeP, ren_madeV, sealed_madeV, noOb_madeV, dec_self, beq_self_eq_true])
          all_goals
          refine Tri.ret ?_
          show ResOk _ _ _ _
          exfalso; omega
         ·try (cases h108; done)
          all_goals (try simp only [CQ] at h108)
          all_goals
          refine Tri.skip ?_
          refine Tri.cut (α := (qs2 : List (Int × Int)) ×' (qs2 = allP c B.length a ++ rowP c a (b + 1))) (fun ⟨qs2, hqs2⟩ => ⟨[(7, .ptr 0 4 0 0), (8, strs B), (9, encI B.length), (10, .ob 1 2 0 qs2.length), (11, .ob 2 1 0 B.length), (12, encI a), (13, encI b), (16, encI (c b a))], [(0, some ⟨4, [encSpec s]⟩), (1, some ⟨2, qs2.map encP⟩), (2, some ⟨1, (lessAt c B.length a b).map encI⟩)], 3, []⟩) ?_ ?_
          ·skip
           refine sZ [7, 8, 9, 10, 11, 12, 13, 16, 110] (fun P S K => XvBinOV P .leq 3 (.const (.int .i64 0)) (S.get 14) (.atom (.int .i64 0)) (fun r1 _ => K ⟨[(7, S.get 7), (8, S.get 8), (9, S.get 9), (10, S.get 10), (11, S.get 11), (12, S.get 12), (13, S.get 13), (16, S.get 16), (110, r1)], S.hp, S.nx, S.gh⟩)) fun K hK => ?_
           repeat' (first | (refine hK _ ?_; clear hK K) | ((first | refine xG_intro (fun hg => ?_) (fun hg => ?_) | refine fun (hg : (_ : Prop)) => ?_) <;> ((try simp only [BQ] at hg); try (exfalso; omega))) | refine And.intro ?_ ?_ | exact cl | exact one_encP _ | refine one_take ?_ _ | refine one_drop ?_ _ | (refine st ?_; try simp only [encSpec, pairs, paths, madeP, ren_madeV, sealed_madeV, noOb_madeV, dec_self, beq_self_eq_true]) | simp only [encSpec, pairs, paths, madeP, ren_madeV, sealed_madeV, noOb_madeV, dec_self, beq_self_eq_true])
           all_goals
           refine Tri.cond rfl (fun h110 => ?_) (fun h110 => ?_)
           ·try (cases h110; done)
            all_goals (try simp only [CQ] at h110)
            all_goals
            refine rZ [7, 8, 9, 10, 11, 12, 13, 16] (fun P S K => XvBuild P 58 [(0, (S.get 12)), (1, (S.get 13))] (fun r3 _ => XvBuildS P 57 1 S.nx [(0, r3)] (fun r4 e4 => (57 = 57 ∧ XvAppend P 57 (M (Eff.hp e4 S.nx S.hp) (S.nx + e4.add.length)) (S.get 10) r4 (fun r5 e5 => K ⟨[(7, S.get 7), (8, S.get 8), (9, S.get 9), (10, r5), (11, S.get 11), (12, S.get 12), (13, S.get 13), (16, S.get 16)], (Eff.hp e5 (S.nx + e4.add.length) (Eff.hp e4 S.nx S.hp)), ((S.nx + e4.add.length) + e5.add.length), S.gh⟩))))) fun K hK => ?_
            repeat' (first | (refine hK _ ?_; clear hK K) | ((first | refine xG_intro (fun hg => ?_) (fun hg => ?_) | refine fun (hg : (_ : Prop)) => ?_) <;> ((try simp only [BQ] at hg); try (exfalso; omega))) | refine And.intro ?_ ?_ | exact cl | exact one_encP _ | refine one_take ?_ _ | refine one_drop ?_ _ | (refine st ?_; try simp only [encSpec, pairs, paths, madeP, ren_madeV, sealed_madeV, noOb_madeV, dec_self, beq_self_eq_true]) | simp only [encSpec, pairs, paths, madeP, ren_madeV, sealed_madeV, noOb_madeV, dec_self, beq_self_eq_true])
            all_goals
            first | (refine ⟨⟨qs ++ [((a : Int), (b : Int))], by rw [hqs, rowP_succ, if_pos (by omega), List.append_assoc]⟩, [0, 4, 2], ?_⟩; exact leqW36; done) | (refine ⟨⟨qs, by rw [hqs, rowP_succ, if_neg (by omega), List.append_nil]⟩, [0, 1, 2], ?_⟩; exact leqW36; done)
           ·try (cases h110; done)
            all_goals (try simp only [CQ] at h110)
            all_goals
            refine Tri.skip ?_
            first | (refine ⟨⟨qs ++ [((a : Int), (b : Int))], by rw [hqs, rowP_succ, if_pos (by omega), List.append_assoc]⟩, [0, 4, 2], ?_⟩; exact leqW36; done) | (refine ⟨⟨qs, by rw [hqs, rowP_succ, if_neg (by omega), List.append_nil]⟩, [0, 1, 2], ?_⟩; exact leqW36; done)
          ·rintro ⟨qs2, hqs2⟩
           refine sZ [7, 8, 9, 10, 11, 12, 13, 118] (fun P S K => XvBinOV P .lss 3 (.const (.int .i64 0)) (S.get 16) (.atom (.int .i64 0)) (fun r1 _ => K ⟨[(7, S.get 7), (8, S.get 8), (9, S.get 9), (10, S.get 10), (11, S.get 11), (12, S.get 12), (13, S.get 13), (118, r1)], S.hp, S.nx, S.gh⟩)) fun K hK => ?_
           repeat' (first | (refine hK _ ?_; clear hK K) | ((first | refine xG_intro (fun hg => ?_) (fun hg => ?_) | refine fun (hg : (_ : Prop)) => ?_) <;> ((try simp only [BQ] at hg); try (exfalso; omega))) | refine And.intro ?_ ?_ | exact cl | exact one_encP _ | refine one_take ?_ _ | refine one_drop ?_ _ | (refine st ?_; try simp only [encSpec, pairs, paths, madeP, ren_madeV, sealed_madeV, noOb_madeV, dec_self, beq_self_eq_true]) | simp only [encSpec, pairs, paths, madeP, ren_madeV, sealed_madeV, noOb_madeV, dec_self, beq_self_eq_true])
           all_goals
           refine Tri.cond rfl (fun h118 => ?_) (fun h118 => ?_)
           ·try (cases h118; done)
            all_goals (try simp only [CQ] at h118)
            all_goals
            have hcb := cnt_le c a b
            refine rZ [7, 8, 9, 10, 11, 12, 13] (fun P S K => XvIndexAddr P 22 (S.get 11) (S.get 12) (fun r2 _ => XvLoad P 3 (M S.hp S.nx) r2 (fun r3 _ => XvBinOV P .add 3 (.const (.int .i64 1)) r3 (.atom (.int .i64 1)) (fun r4 _ => XvIndexAddr P 22 (S.get 11) (S.get 12) (fun r5 _ => XvStore P 3 (M S.hp S.nx) r5 r4 (fun r6 e6 => K ⟨[(7, S.get 7), (8, S.get 8), (9, S.get 9), (10, S.get 10), (11, S.get 11), (12, S.get 12), (13, S.get 13)], (Eff.hp e6 S.nx S.hp), (S.nx + e6.add.length), S.gh⟩)))))) fun K hK => ?_
            repeat' (first | (refine hK _ ?_; clear hK K) | ((first | refine xG_intro (fun hg => ?_) (fun hg => ?_) | refine fun (hg : (_ : Prop)) => ?_) <;> ((try simp only [BQ] at hg); try (exfalso; omega))) | refine And.intro ?_ ?_ | exact cl | exact one_encP _ | refine one_take ?_ _ | refine one_drop ?_ _ | (refine st ?_; try simp only [encSpec, pairs, paths, madeP, ren_madeV, sealed_madeV, noOb_madeV, dec_self, beq_self_eq_true, lessAt_len, lessAt_li2 ha1, wrap_id (x := (cnt c a b : Int) + 1) (by omega) (by omega)]) | simp only [encSpec, pairs, paths, madeP, ren_madeV, sealed_madeV, noOb_madeV, dec_self, beq_self_eq_true, lessAt_len, lessAt_li2 ha1, wrap_id (x := (cnt c a b : Int) + 1) (by omega) (by omega)])
            all_goals try simp (disch := omega) only [wrap_id, wrap8_id]
            all_goals
            first | (rw [lessAt_set ha1 (by omega)]; refine ⟨⟨qs2, hqs2⟩, [0, 1, 2], ?_⟩; exact leqW36; done) | (rw [lessAt_no (show ¬ c b a < 0 by omega)]; refine ⟨⟨qs2, hqs2⟩, [0, 1, 2], ?_⟩; exact leqW36; done)
           ·try (cases h118; done)
            all_goals (try simp only [CQ] at h118)
            all_goals
            refine Tri.skip ?_
            first | (rw [lessAt_set ha1 (by omega)]; refine ⟨⟨qs2, hqs2⟩, [0, 1, 2], ?_⟩; exact leqW36; done) | (rw [lessAt_no (show ¬ c b a < 0 by omega)]; refine ⟨⟨qs2, hqs2⟩, [0, 1, 2], ?_⟩; exact leqW36; done)
        ·rintro ⟨qs2, hqs2⟩
         refine rZ [7, 8, 9, 10, 11, 12, 13] (fun P S K => XvBinOV P .add 3 (.const (.int .i64 1)) (S.get 13) (.atom (.int .i64 1)) (fun r1 _ => K ⟨[(7, S.get 7), (8, S.get 8), (9, S.get 9), (10, S.get 10), (11, S.get 11), (12, S.get 12), (13, r1)], S.hp, S.nx, S.gh⟩)) fun K hK => ?_
         repeat' (first | (refine hK _ ?_; clear hK K) | ((first | refine xG_intro (fun hg => ?_) (fun hg => ?_) | refine fun (hg : (_ : Prop)) => ?_) <;> ((try simp only [BQ] at hg); try (exfalso; omega))) | refine And.intro ?_ ?_ | exact cl | exact one_encP _ | refine one_take ?_ _ | refine one_drop ?_ _ | (refine st ?_; try simp only [encSpec, pairs, paths, madeP, ren_madeV, sealed_madeV, noOb_madeV, dec_self, beq_self_eq_true]) | simp only [encSpec, pairs, paths, madeP, ren_madeV, sealed_madeV, noOb_madeV, dec_self, beq_self_eq_true])
         all_goals try simp (disch := omega) only [wrap_id, wrap8_id]
         all_goals
         refine ⟨⟨qs2, b + 1, by omega, hqs2⟩, [0, 1, 2], by dsimp only; omega, ?_⟩
         exact leqW36
       ·try (cases h51; done)
        all_goals (try simp only [CQ] at h51)
        all_goals
        refine Tri.exit ?_
        refine rZ [7, 8, 9, 10, 11, 12] (fun P S K => XvBinOV P .add 3 (.const (.int .i64 1)) (S.get 12) (.atom (.int .i64 1)) (fun r1 _ => K ⟨[(7, S.get 7), (8, S.get 8), (9, S.get 9), (10, S.get 10), (11, S.get 11), (12, r1)], S.hp, S.nx, S.gh⟩)) fun K hK => ?_
        repeat' (first | (refine hK _ ?_; clear hK K) | ((first | refine xG_intro (fun hg => ?_) (fun hg => ?_) | refine fun (hg : (_ : Prop)) => ?_) <;> ((try simp only [BQ] at hg); try (exfalso; omega))) | refine And.intro ?_ ?_ | exact cl | exact one_encP _ | refine one_take ?_ _ | refine one_drop ?_ _ | (refine st ?_; try simp only [encSpec, pairs, paths, madeP, ren_madeV, sealed_madeV, noOb_madeV, dec_self, beq_self_eq_true]) | simp only [encSpec, pairs, paths, madeP, ren_madeV, sealed_madeV, noOb_madeV, dec_self, beq_self_eq_true])
        all_goals try simp (disch := omega) only [wrap_id, wrap8_id]
        all_goals
        obtain rfl : b = B.length := by omega
        rw [lessAt_row ha1]
        refine ⟨⟨qs, a + 1, by omega, by rw [hqs, allP_succ]⟩, [0, 1, 2], by dsimp only; omega, ?_⟩
        exact leqW36
     ·try (cases h46; done)
      all_goals (try simp only [CQ] at h46)
      all_goals
      refine Tri.exit ?_
      (obtain rfl : a = B.length := by omega); refine ⟨(), [0], ?_⟩; rw [lessAt_end, ← hps, show PV.ob 2 1 0 B.length = PV.ob 2 1 0 (cntL c B.length).length by rw [cntL_len]]; exact leqW36
   ·rintro ⟨⟩
    refine sZ [7, 8, 9, 10, 11, 19, 20] (fun P S K => XvFnIV P (M S.hp S.nx) (.fn 29 []) [(S.get 9), (S.get 10)] (fun r2 e2 => XvExtract r2 0 (fun r4 _ => XvExtract r2 1 (fun r5 _ => XvExtract r2 2 (fun r6 _ => K ⟨[(7, S.get 7), (8, S.get 8), (9, S.get 9), (10, S.get 10), (11, S.get 11), (19, r5), (20, r6)], (Eff.hp e2 S.nx S.hp), (S.nx + e2.add.length), S.gh⟩))))) fun K hK => ?_
    repeat' (first | (refine hK _ ?_; clear hK K) | ((first | refine xG_intro (fun hg => ?_) (fun hg => ?_) | refine fun (hg : (_ : Prop)) => ?_) <;> ((try simp only [BQ] at hg); try (exfalso; omega))) | refine And.intro ?_ ?_ | exact cl | exact one_encP _ | refine one_take ?_ _ | refine one_drop ?_ _ | refine .inl ⟨_, _, hcmp a b ha1 hb1, ?_⟩ | refine ⟨_, _, hcmp a b ha1 hb1, ?_⟩ | refine .inl ⟨_, _, hcmp b a hb1 ha1, ?_⟩ | refine ⟨_, _, hcmp b a hb1 ha1, ?_⟩ | refine .inl ⟨_, _, hTot, ?_⟩ | refine ⟨_, _, hTot, ?_⟩ | refine .inl ⟨_, _, hRank, ?_⟩ | refine ⟨_, _, hRank, ?_⟩ | refine .inl ⟨_, _, hSort, ?_⟩ | refine ⟨_, _, hSort, ?_⟩ | refine .inl ⟨_, _, hPaths, ?_⟩ | refine ⟨_, _, hPaths, ?_⟩ | (refine st ?_; try simp only [encSpec, pairs, paths, madeP, ren_madeV, sealed_madeV, noOb_madeV, dec_self, beq_self_eq_true]) | simp only [encSpec, pairs, paths, madeP, ren_madeV, sealed_madeV, noOb_madeV, dec_self, beq_self_eq_true])
    all_goals
    refine sZ [7, 8, 9, 11, 19, 20, 21, 22] (fun P S K => XvFnIV P (M S.hp S.nx) (.fn 31 []) [(S.get 9), (S.get 10)] (fun r2 e2 => XvExtract r2 0 (fun r4 _ => XvExtract r2 1 (fun r5 _ => K ⟨[(7, S.get 7), (8, S.get 8), (9, S.get 9), (11, S.get 11), (19, S.get 19), (20, S.get 20), (21, r4), (22, r5)], (Eff.hp e2 S.nx S.hp), (S.nx + e2.add.length), S.gh⟩)))) fun K hK => ?_
    repeat' (first | (refine hK _ ?_; clear hK K) | ((first | refine xG_intro (fun hg => ?_) (fun hg => ?_) | refine fun (hg : (_ : Prop)) => ?_) <;> ((try simp only [BQ] at hg); try (exfalso; omega))) | refine And.intro ?_ ?_ | exact cl | exact one_encP _ | refine one_take ?_ _ | refine one_drop ?_ _ | refine .inl ⟨_, _, hcmp a b ha1 hb1, ?_⟩ | refine ⟨_, _, hcmp a b ha1 hb1, ?_⟩ | refine .inl ⟨_, _, hcmp b a hb1 ha1, ?_⟩ | refine ⟨_, _, hcmp b a hb1 ha1, ?_⟩ | refine .inl ⟨_, _, hTot, ?_⟩ | refine ⟨_, _, hTot, ?_⟩ | refine .inl ⟨_, _, hRank, ?_⟩ | refine ⟨_, _, hRank, ?_⟩ | refine .inl ⟨_, _, hSort, ?_⟩ | refine ⟨_, _, hSort, ?_⟩ | refine .inl ⟨_, _, hPaths, ?_⟩ | refine ⟨_, _, hPaths, ?_⟩ | (refine st ?_; try simp only [encSpec, pairs, paths, madeP, ren_madeV, sealed_madeV, noOb_madeV, dec_self, beq_self_eq_true]) | simp only [encSpec, pairs, paths, madeP, ren_madeV, sealed_madeV, noOb_madeV, dec_self, beq_self_eq_true])
    all_goals
    refine sZ [7, 8, 9, 11, 19, 20, 21, 22, 23, 24] (fun P S K => XvLoad P 33 (M S.hp S.nx) (S.get 7) (fun r0 _ => XvFnIV P (M S.hp S.nx) (.fn 23 []) [r0, (S.get 8)] (fun r2 e2 => XvExtract r2 0 (fun r4 _ => XvExtract r2 1 (fun r5 _ => K ⟨[(7, S.get 7), (8, S.get 8), (9, S.get 9), (11, S.get 11), (19, S.get 19), (20, S.get 20), (21, S.get 21), (22, S.get 22), (23, r4), (24, r5)], (Eff.hp e2 S.nx S.hp), (S.nx + e2.add.length), S.gh⟩))))) fun K hK => ?_
    repeat' (first | (refine hK _ ?_; clear hK K) | ((first | refine xG_intro (fun hg => ?_) (fun hg => ?_) | refine fun (hg : (_ : Prop)) => ?_) <;> ((try simp only [BQ] at hg); try (exfalso; omega))) | refine And.intro ?_ ?_ | exact cl | exact one_encP _ | refine one_take ?_ _ | refine one_drop ?_ _ | refine .inl ⟨_, _, hcmp a b ha1 hb1, ?_⟩ | refine ⟨_, _, hcmp a b ha1 hb1, ?_⟩ | refine .inl ⟨_, _, hcmp b a hb1 ha1, ?_⟩ | refine ⟨_, _, hcmp b a hb1 ha1, ?_⟩ | refine .inl ⟨_, _, hTot, ?_⟩ | refine ⟨_, _, hTot, ?_⟩ | refine .inl ⟨_, _, hRank, ?_⟩ | refine ⟨_, _, hRank, ?_⟩ | refine .inl ⟨_, _, hSort, ?_⟩ | refine ⟨_, _, hSort, ?_⟩ | refine .inl ⟨_, _, hPaths, ?_⟩ | refine ⟨_, _, hPaths, ?_⟩ | (refine st ?_; try simp only [encSpec, pairs, paths, madeP, ren_madeV, sealed_madeV, noOb_madeV, dec_self, beq_self_eq_true]) | simp only [encSpec, pairs, paths, madeP, ren_madeV, sealed_madeV, noOb_madeV, dec_self, beq_self_eq_true])
    all_goals
    refine sZ [7, 8, 9, 11, 19, 20, 21, 22, 23, 24, 25] (fun P S K => K ⟨[(7, S.get 7), (8, S.get 8), (9, S.get 9), (11, S.get 11), (19, S.get 19), (20, S.get 20), (21, S.get 21), (22, S.get 22), (23, S.get 23), (24, S.get 24), (25, (.atom (.slice none 0 0)))], S.hp, S.nx, S.gh⟩) fun K hK => ?_
    repeat' (first | (refine hK _ ?_; clear hK K) | ((first | refine xG_intro (fun hg => ?_) (fun hg => ?_) | refine fun (hg : (_ : Prop)) => ?_) <;> ((try simp only [BQ] at hg); try (exfalso; omega))) | refine And.intro ?_ ?_ | exact cl | exact one_encP _ | refine one_take ?_ _ | refine one_drop ?_ _ | (refine st ?_; try simp only [encSpec, pairs, paths, madeP, ren_madeV, sealed_madeV, noOb_madeV, dec_self, beq_self_eq_true]) | simp only [encSpec, pairs, paths, madeP, ren_madeV, sealed_madeV, noOb_madeV, dec_self, beq_self_eq_true])
    refine Tri.born 25 1 rfl ?_
    all_goals
    refine Tri.cut (α := Unit) (fun ⟨⟩ => ⟨[(7, .ptr 0 4 0 0), (8, strs B), (9, encI B.length), (11, ints (cntL c B.length)), (19, .atom (.bool true)), (20, encI 0), (21, ints (cntL c B.length)), (22, encI 0), (23, strs (o.map fun i => ls B i.toNat)), (24, encI 0), (25, paths (singleL B))], [(0, some ⟨4, [encSpec s]⟩)], 1, []⟩) ?_ ?_
    ·skip
     refine sZ [7, 8, 9, 11, 19, 20, 21, 22, 23, 24, 25, 26] (fun P S K => K ⟨[(7, S.get 7), (8, S.get 8), (9, S.get 9), (11, S.get 11), (19, S.get 19), (20, S.get 20), (21, S.get 21), (22, S.get 22), (23, S.get 23), (24, S.get 24), (25, S.get 25), (26, (.atom (.int .i64 0)))], S.hp, S.nx, S.gh⟩) fun K hK => ?_
     repeat' (first | (refine hK _ ?_; clear hK K) | ((first | refine xG_intro (fun hg => ?_) (fun hg => ?_) | refine fun (hg : (_ : Prop)) => ?_) <;> ((try simp only [BQ] at hg); try (exfalso; omega))) | refine And.intro ?_ ?_ | exact cl | exact one_encP _ | refine one_take ?_ _ | refine one_drop ?_ _ | (refine st ?_; try simp only [encSpec, pairs, paths, madeP, ren_madeV, sealed_madeV, noOb_madeV, dec_self, beq_self_eq_true]) | simp only [encSpec, pairs, paths, madeP, ren_madeV, sealed_madeV, noOb_madeV, dec_self, beq_self_eq_true])
     all_goals
     refine Tri.block ?_
     refine Tri.loop (α := (ss : List (List ByteArray)) ×' (i : Nat) ×' (i ≤ B.length ∧ ss = (singleL B).take i)) (fun z => (fun (ss : List (List ByteArray)) (i : Nat) => (⟨[(7, .ptr 0 4 0 0), (8, strs B), (9, encI B.length), (11, ints (cntL c B.length)), (19, .atom (.bool true)), (20, encI 0), (21, ints (cntL c B.length)), (22, encI 0), (23, strs (o.map fun i => ls B i.toNat)), (24, encI 0), (25, .ob 1 1 0 ss.length), (26, encI i)], [(0, some ⟨4, [encSpec s]⟩), (1, some ⟨1, ss.map strs⟩)], 2, []⟩ : St)) z.1 z.2.1) (fun z => (fun (ss : List (List ByteArray)) (i : Nat) => B.length - i) z.1 z.2.1) ⟨[], 0, ⟨Nat.zero_le _, rfl⟩⟩ [0, 1] ?_ ?_
     ·exact leqW36
     ·rintro ⟨ss, i, ⟨hi, hss⟩⟩
      refine Tri.seq ?_
      refine sZ [7, 8, 9, 11, 19, 20, 21, 22, 23, 24, 25, 26, 146] (fun P S K => XvBinOV P .lss 3 (.tmp 145) (S.get 26) (S.get 9) (fun r2 _ => K ⟨[(7, S.get 7), (8, S.get 8), (9, S.get 9), (11, S.get 11), (19, S.get 19), (20, S.get 20), (21, S.get 21), (22, S.get 22), (23, S.get 23), (24, S.get 24), (25, S.get 25), (26, S.get 26), (146, r2)], S.hp, S.nx, S.gh⟩)) fun K hK => ?_
      repeat' (first | (refine hK _ ?_; clear hK K) | ((first | refine xG_intro (fun hg => ?_) (fun hg => ?_) | refine fun (hg : (_ : Prop)) => ?_) <;> ((try simp only [BQ] at hg); try (exfalso; omega))) | refine And.intro ?_ ?_ | exact cl | exact one_encP _ | refine one_take ?_ _ | refine one_drop ?_ _ | (refine st ?_; try simp only [encSpec, pairs, paths, madeP, ren_madeV, sealed_madeV, noOb_madeV, dec_self, beq_self_eq_true]) | simp only [encSpec, pairs, paths, madeP, ren_madeV, sealed_madeV, noOb_madeV, dec_self, beq_self_eq_true])
      all_goals
      refine Tri.cond rfl (fun h146 => ?_) (fun h146 => ?_)
      ·try (cases h146; done)
       all_goals (try simp only [CQ] at h146)
       all_goals
       refine Tri.skip ?_
       refine Tri.seq ?_
       refine Tri.block ?_
       have hiB : i < B.length := by omega
       have hsl : ss.length ≤ 100 := by rw [hss, List.length_take]; omega
       refine rZ [7, 8, 9, 11, 19, 20, 21, 22, 23, 24, 25, 26] (fun P S K => XvIndexAddr P 25 (S.get 8) (S.get 26) (fun r3 _ => XvLoad P 9 (M S.hp S.nx) r3 (fun r4 _ => XvBuildS P 25 1 S.nx [(0, r4)] (fun r5 e5 => XvBuildS P 47 1 (S.nx + e5.add.length) [(0, r5)] (fun r6 e6 => (47 = 47 ∧ XvAppend P 47 (M (Eff.hp e6 (S.nx + e5.add.length) (Eff.hp e5 S.nx S.hp)) ((S.nx + e5.add.length) + e6.add.length)) (S.get 25) r6 (fun r7 e7 => K ⟨[(7, S.get 7), (8, S.get 8), (9, S.get 9), (11, S.get 11), (19, S.get 19), (20, S.get 20), (21, S.get 21), (22, S.get 22), (23, S.get 23), (24, S.get 24), (25, r7), (26, S.get 26)], (Eff.hp e7 ((S.nx + e5.add.length) + e6.add.length) (Eff.hp e6 (S.nx + e5.add.length) (Eff.hp e5 S.nx S.hp))), (((S.nx + e5.add.length) + e6.add.length) + e7.add.length), S.gh⟩))))))) fun K hK => ?_
       repeat' (first | (refine hK _ ?_; clear hK K) | ((first | refine xG_intro (fun hg => ?_) (fun hg => ?_) | refine fun (hg : (_ : Prop)) => ?_) <;> ((try simp only [BQ] at hg); try (exfalso; omega))) | refine And.intro ?_ ?_ | exact cl | exact one_encP _ | refine one_take ?_ _ | refine one_drop ?_ _ | (refine st ?_; try simp only [encSpec, pairs, paths, madeP, ren_madeV, sealed_madeV, noOb_madeV, dec_self, beq_self_eq_true, getD_encS hiB]) | simp only [encSpec, pairs, paths, madeP, ren_madeV, sealed_madeV, noOb_madeV, dec_self, beq_self_eq_true, getD_encS hiB])
       all_goals
       refine rZ [7, 8, 9, 11, 19, 20, 21, 22, 23, 24, 25, 26] (fun P S K => XvBinOV P .add 3 (.const (.int .i64 1)) (S.get 26) (.atom (.int .i64 1)) (fun r1 _ => K ⟨[(7, S.get 7), (8, S.get 8), (9, S.get 9), (11, S.get 11), (19, S.get 19), (20, S.get 20), (21, S.get 21), (22, S.get 22), (23, S.get 23), (24, S.get 24), (25, S.get 25), (26, r1)], S.hp, S.nx, S.gh⟩)) fun K hK => ?_
       repeat' (first | (refine hK _ ?_; clear hK K) | ((first | refine xG_intro (fun hg => ?_) (fun hg => ?_) | refine fun (hg : (_ : Prop)) => ?_) <;> ((try simp only [BQ] at hg); try (exfalso; omega))) | refine And.intro ?_ ?_ | exact cl | exact one_encP _ | refine one_take ?_ _ | refine one_drop ?_ _ | (refine st ?_; try simp only [encSpec, pairs, paths, madeP, ren_madeV, sealed_madeV, noOb_madeV, dec_self, beq_self_eq_true]) | simp only [encSpec, pairs, paths, madeP, ren_madeV, sealed_madeV, noOb_madeV, dec_self, beq_self_eq_true])
       all_goals try simp (disch := omega) only [wrap_id, wrap8_id]
       all_goals
       refine ⟨⟨ss ++ [[ls B i]], i + 1, by omega, by rw [hss, take_single hiB]⟩, [0, 4], by dsimp only; omega, ?_⟩
       exact leqW36
      ·try (cases h146; done)
       all_goals (try simp only [CQ] at h146)
       all_goals
       refine Tri.exit ?_
       (obtain rfl : i = B.length := by omega); rw [List.take_of_length_le (by rw [singleL_len]; exact Nat.le_refl _)] at hss; subst hss; refine ⟨(), [0], ?_⟩; exact leqW36
    ·rintro ⟨⟩
     refine sZ [8, 9, 11, 19, 20, 21, 22, 23, 24, 27, 28] (fun P S K => XvLoad P 33 (M S.hp S.nx) (S.get 7) (fun r0 _ => XvFnIV P (M S.hp S.nx) (.fn 25 []) [r0, (S.get 25)] (fun r2 e2 => XvExtract r2 0 (fun r4 _ => XvExtract r2 1 (fun r5 _ => K ⟨[(8, S.get 8), (9, S.get 9), (11, S.get 11), (19, S.get 19), (20, S.get 20), (21, S.get 21), (22, S.get 22), (23, S.get 23), (24, S.get 24), (27, r4), (28, r5)], (Eff.hp e2 S.nx S.hp), (S.nx + e2.add.length), S.gh⟩))))) fun K hK => ?_
     repeat' (first | (refine hK _ ?_; clear hK K) | ((first | refine xG_intro (fun hg => ?_) (fun hg => ?_) | refine fun (hg : (_ : Prop)) => ?_) <;> ((try simp only [BQ] at hg); try (exfalso; omega))) | refine And.intro ?_ ?_ | exact cl | exact one_encP _ | refine one_take ?_ _ | refine one_drop ?_ _ | refine .inl ⟨_, _, hcmp a b ha1 hb1, ?_⟩ | refine ⟨_, _, hcmp a b ha1 hb1, ?_⟩ | refine .inl ⟨_, _, hcmp b a hb1 ha1, ?_⟩ | refine ⟨_, _, hcmp b a hb1 ha1, ?_⟩ | refine .inl ⟨_, _, hTot, ?_⟩ | refine ⟨_, _, hTot, ?_⟩ | refine .inl ⟨_, _, hRank, ?_⟩ | refine ⟨_, _, hRank, ?_⟩ | refine .inl ⟨_, _, hSort, ?_⟩ | refine ⟨_, _, hSort, ?_⟩ | refine .inl ⟨_, _, hPaths, ?_⟩ | refine ⟨_, _, hPaths, ?_⟩ | (refine st ?_; try simp only [encSpec, pairs, paths, madeP, ren_madeV, sealed_madeV, noOb_madeV, dec_self, beq_self_eq_true]) | simp only [encSpec, pairs, paths, madeP, ren_madeV, sealed_madeV, noOb_madeV, dec_self, beq_self_eq_true])
     all_goals
     refine Tri.seq ?_
     refine sZ [8, 9, 21, 23, 27, 198] (fun P S K => XvUn .not (S.get 19) (fun r1 _ => Xgq r1 false (fun k => k (S.get 20)) (fun g3 r3 => Xgq g3 false (fun k => XvBinOV P .neq 30 (.const (.int .i64 0)) r3 (.atom (.int .i64 0)) (fun r4 _ => k r4)) (fun g4 r4 => XvPick g4 (.atom (.bool true)) r4 (fun r5 _ => Xgq r5 false (fun k => k (S.get 22)) (fun g7 r7 => Xgq g7 false (fun k => XvBinOV P .neq 30 (.const (.int .i64 0)) r7 (.atom (.int .i64 0)) (fun r8 _ => k r8)) (fun g8 r8 => XvPick g8 (.atom (.bool true)) r8 (fun r9 _ => Xgq r9 false (fun k => k (S.get 24)) (fun g11 r11 => Xgq g11 false (fun k => XvBinOV P .neq 30 (.const (.int .i64 0)) r11 (.atom (.int .i64 0)) (fun r12 _ => k r12)) (fun g12 r12 => XvPick g12 (.atom (.bool true)) r12 (fun r13 _ => Xgq r13 false (fun k => k (S.get 28)) (fun g15 r15 => Xgq g15 false (fun k => XvBinOV P .neq 30 (.const (.int .i64 0)) r15 (.atom (.int .i64 0)) (fun r16 _ => k r16)) (fun g16 r16 => XvPick g16 (.atom (.bool true)) r16 (fun r17 _ => Xgq r17 false (fun k => k (S.get 21)) (fun g19 r19 => Xgq g19 false (fun k => k (S.get 11)) (fun g20 r20 => Xge g20 false (fun k => XvFnIV P (M S.hp S.nx) (.fn 18 []) [r19, r20] k) (fun g21 r21 e21 => Xgq g21 false (fun k => XvUn .not r21 (fun r22 _ => k r22)) (fun g22 r22 => XvPick g22 (.atom (.bool true)) r22 (fun r23 _ => Xgq r23 false (fun k => k (S.get 23)) (fun g25 r25 => Xgq g25 false (fun k => XvLen P 25 r25 (fun r26 _ => k r26)) (fun g26 r26 => Xgq g26 false (fun k => k (S.get 9)) (fun g27 r27 => Xgq g27 false (fun k => XvBinOV P .neq 3 (.tmp 190) r26 r27 (fun r28 _ => k r28)) (fun g28 r28 => XvPick g28 (.atom (.bool true)) r28 (fun r29 _ => Xgq r29 false (fun k => k (S.get 27)) (fun g31 r31 => Xgq g31 false (fun k => XvLen P 22 r31 (fun r32 _ => k r32)) (fun g32 r32 => Xgq g32 false (fun k => k (S.get 9)) (fun g33 r33 => Xgq g33 false (fun k => XvBinOV P .neq 3 (.tmp 196) r32 r33 (fun r34 _ => k r34)) (fun g34 r34 => XvPick g34 (.atom (.bool true)) r34 (fun r35 _ => K ⟨[(8, S.get 8), (9, S.get 9), (21, S.get 21), (23, S.get 23), (27, S.get 27), (198, r35)], (Eff.hp e21 S.nx S.hp), (S.nx + e21.add.length), S.gh⟩))))))))))))))))))))))))))))) fun K hK => ?_
     repeat' (first | (refine hK _ ?_; clear hK K) | ((first | refine xG_intro (fun hg => ?_) (fun hg => ?_) | refine fun (hg : (_ : Prop)) => ?_) <;> ((try simp only [BQ] at hg); try (exfalso; omega))) | refine And.intro ?_ ?_ | exact cl | exact one_encP _ | refine one_take ?_ _ | refine one_drop ?_ _ | refine .inl ⟨_, _, hcmp a b ha1 hb1, ?_⟩ | refine ⟨_, _, hcmp a b ha1 hb1, ?_⟩ | refine .inl ⟨_, _, hcmp b a hb1 ha1, ?_⟩ | refine ⟨_, _, hcmp b a hb1 ha1, ?_⟩ | refine .inl ⟨_, _, hTot, ?_⟩ | refine ⟨_, _, hTot, ?_⟩ | refine .inl ⟨_, _, hRank, ?_⟩ | refine ⟨_, _, hRank, ?_⟩ | refine .inl ⟨_, _, hSort, ?_⟩ | refine ⟨_, _, hSort, ?_⟩ | refine .inl ⟨_, _, hPaths, ?_⟩ | refine ⟨_, _, hPaths, ?_⟩ | refine .inl ⟨_, _, SameInts_pure (cntL c B.length) (cntL c B.length) hcl hcl, ?_⟩ | refine ⟨_, _, SameInts_pure (cntL c B.length) (cntL c B.length) hcl hcl, ?_⟩ | (refine st ?_; try simp only [encSpec, pairs, paths, madeP, ren_madeV, sealed_madeV, noOb_madeV, dec_self, beq_self_eq_true, hoi.len, List.length_map]) | simp only [encSpec, pairs, paths, madeP, ren_madeV, sealed_madeV, noOb_madeV, dec_self, beq_self_eq_true, hoi.len, List.length_map])
     all_goals try simp (disch := omega) only [wrap_id, wrap8_id]
     all_goals
     refine Tri.cond rfl (fun h198 => ?_) (fun h198 => ?_)
     ·try (cases h198; done)
      all_goals (try simp only [CQ] at h198)
      all_goals
      refine sZ [6] (fun P S K => K ⟨[(6, (.atom (.bool false)))], S.hp, S.nx, S.gh⟩) fun K hK => ?_
      repeat' (first | (refine hK _ ?_; clear hK K) | ((first | refine xG_intro (fun hg => ?_) (fun hg => ?_) | refine fun (hg : (_ : Prop)) => ?_) <;> ((try simp only [BQ] at hg); try (exfalso; omega))) | refine And.intro ?_ ?_ | exact cl | exact one_encP _ | refine one_take ?_ _ | refine one_drop ?_ _ | (refine st ?_; try simp only [encSpec, pairs, paths, madeP, ren_madeV, sealed_madeV, noOb_madeV, dec_self, beq_self_eq_true]) | simp only [encSpec, pairs, paths, madeP, ren_madeV, sealed_madeV, noOb_madeV, dec_self, beq_self_eq_true])
      all_goals
      refine Tri.ret ?_
      show ResOk _ _ _ _
      exfalso; omega
     ·try (cases h198; done)
      all_goals (try simp only [CQ] at h198)
      all_goals
      refine Tri.skip ?_
      refine sZ [8, 9, 21, 23, 27, 29] (fun P S K => XvMake P 65 (M S.hp S.nx) (S.get 9) (S.get 9) (fun r1 e1 => K ⟨[(8, S.get 8), (9, S.get 9), (21, S.get 21), (23, S.get 23), (27, S.get 27), (29, r1)], (Eff.hp e1 S.nx S.hp), (S.nx + e1.add.length), S.gh⟩)) fun K hK => ?_
      repeat' (first | (refine hK _ ?_; clear hK K) | ((first | refine xG_intro (fun hg => ?_) (fun hg => ?_) | refine fun (hg : (_ : Prop)) => ?_) <;> ((try simp only [BQ] at hg); try (exfalso; omega))) | refine And.intro ?_ ?_ | exact cl | exact one_encP _ | refine one_take ?_ _ | refine one_drop ?_ _ | (refine st ?_; try simp only [encSpec, pairs, paths, madeP, ren_madeV, sealed_madeV, noOb_madeV, dec_self, beq_self_eq_true]) | simp only [encSpec, pairs, paths, madeP, ren_madeV, sealed_madeV, noOb_madeV, dec_self, beq_self_eq_true])
      rw [falses_met _ o]
      all_goals
      refine Tri.seq ?_
      refine sZ [8, 9, 21, 23, 27, 29, 30] (fun P S K => K ⟨[(8, S.get 8), (9, S.get 9), (21, S.get 21), (23, S.get 23), (27, S.get 27), (29, S.get 29), (30, (.atom (.int .i64 0)))], S.hp, S.nx, S.gh⟩) fun K hK => ?_
      repeat' (first | (refine hK _ ?_; clear hK K) | ((first | refine xG_intro (fun hg => ?_) (fun hg => ?_) | refine fun (hg : (_ : Prop)) => ?_) <;> ((try simp only [BQ] at hg); try (exfalso; omega))) | refine And.intro ?_ ?_ | exact cl | exact one_encP _ | refine one_take ?_ _ | refine one_drop ?_ _ | (refine st ?_; try simp only [encSpec, pairs, paths, madeP, ren_madeV, sealed_madeV, noOb_madeV, dec_self, beq_self_eq_true]) | simp only [encSpec, pairs, paths, madeP, ren_madeV, sealed_madeV, noOb_madeV, dec_self, beq_self_eq_true])
      all_goals
      refine Tri.block ?_
      refine Tri.loop (α := (i : Nat) ×' (i ≤ B.length)) (fun z => (fun (i : Nat) => (⟨[(8, strs B), (9, encI B.length), (21, ints (cntL c B.length)), (23, strs (o.map fun i => ls B i.toNat)), (27, ints o), (29, .ob 0 1 0 B.length), (30, encI i)], [(0, some ⟨1, (metL B.length o i).map encO⟩)], 1, []⟩ : St)) z.1) (fun z => (fun (i : Nat) => B.length - i) z.1) ⟨0, Nat.zero_le _⟩ [1] ?_ ?_
      ·exact leqW36
      ·rintro ⟨i, hi⟩
       refine Tri.seq ?_
       refine sZ [8, 9, 21, 23, 27, 29, 30, 203] (fun P S K => XvBinOV P .lss 3 (.tmp 202) (S.get 30) (S.get 9) (fun r2 _ => K ⟨[(8, S.get 8), (9, S.get 9), (21, S.get 21), (23, S.get 23), (27, S.get 27), (29, S.get 29), (30, S.get 30), (203, r2)], S.hp, S.nx, S.gh⟩)) fun K hK => ?_
       repeat' (first | (refine hK _ ?_; clear hK K) | ((first | refine xG_intro (fun hg => ?_) (fun hg => ?_) | refine fun (hg : (_ : Prop)) => ?_) <;> ((try simp only [BQ] at hg); try (exfalso; omega))) | refine And.intro ?_ ?_ | exact cl | exact one_encP _ | refine one_take ?_ _ | refine one_drop ?_ _ | (refine st ?_; try simp only [encSpec, pairs, paths, madeP, ren_madeV, sealed_madeV, noOb_madeV, dec_self, beq_self_eq_true]) | simp only [encSpec, pairs, paths, madeP, ren_madeV, sealed_madeV, noOb_madeV, dec_self, beq_self_eq_true])
       all_goals
       refine Tri.cond rfl (fun h203 => ?_) (fun h203 => ?_)
       ·try (cases h203; done)
        all_goals (try simp only [CQ] at h203)
        all_goals
        refine Tri.skip ?_
        refine Tri.seq ?_
        refine Tri.block ?_
        refine Tri.seq ?_
        have hiB : i < B.length := by omega
        have hx := hoi.rng i hiB
        have hol := hoi.len
        have hmet := metL_at hoi hiB
        have hlm : ls (o.map fun i => ls B i.toNat) i = ls B (li o i).toNat := by simp [ls, li, List.getD_eq_getElem?_getD, hol, hiB]
        refine sD 44 [8, 9, 21, 23, 27, 29, 30, 249] (fun P GD S K => XvIndexAddr P 22 (S.get 27) (S.get 30) (fun r2 e2 => XvLoad P 3 (M S.hp S.nx) r2 (fun r3 e3 => XvBinOV P .lss 3 (.const (.int .i64 0)) r3 (.atom (.int .i64 0)) (fun r4 e4 => Xge r4 false (fun k => k (S.get 27) e0) (fun g6 r6 e6 => Xge g6 false (fun k => k (S.get 30) e0) (fun g7 r7 e7 => Xge g7 false (fun k => XvIndexAddr P 22 r6 r7 k) (fun g8 r8 e8 => Xge g8 false (fun k => XvLoad P 3 (M S.hp S.nx) r8 k) (fun g9 r9 e9 => Xge g9 false (fun k => k (S.get 9) e0) (fun g10 r10 e10 => Xge g10 false (fun k => XvBinOV P .geq 3 (.tmp 216) r9 r10 k) (fun g11 r11 e11 => XvPick g11 (.atom (.bool true)) r11 (fun r12 e12 => Xge r12 false (fun k => k (S.get 29) e0) (fun g14 r14 e14 => Xge g14 false (fun k => k (S.get 27) e0) (fun g15 r15 e15 => Xge g15 false (fun k => k (S.get 30) e0) (fun g16 r16 e16 => Xge g16 false (fun k => XvIndexAddr P 22 r15 r16 k) (fun g17 r17 e17 => Xge g17 false (fun k => XvLoad P 3 (M S.hp S.nx) r17 k) (fun g18 r18 e18 => Xge g18 false (fun k => k (S.get 9) e0) (fun g19 r19 e19 => Xge g19 false (fun k => XvBinOV P .sub 3 (.const (.int .i64 1)) r19 (.atom (.int .i64 1)) k) (fun g20 r20 e20 => Xge g20 false (fun k => XvMinMax false r18 r20 k) (fun g21 r21 e21 => Xge g21 false (fun k => XvMinMax true (.atom (.int .i64 0)) r21 k) (fun g22 r22 e22 => Xge g22 false (fun k => XvIndexAddr P 65 r14 r22 k) (fun g23 r23 e23 => Xge g23 false (fun k => XvLoad P 4 (M S.hp S.nx) r23 k) (fun g24 r24 e24 => XvPick g24 (.atom (.bool true)) r24 (fun r25 e25 => Xge r25 false (fun k => k (S.get 8) e0) (fun g27 r27 e27 => Xge g27 false (fun k => k (S.get 27) e0) (fun g28 r28 e28 => Xge g28 false (fun k => k (S.get 30) e0) (fun g29 r29 e29 => Xge g29 false (fun k => XvIndexAddr P 22 r28 r29 k) (fun g30 r30 e30 => Xge g30 false (fun k => XvLoad P 3 (M S.hp S.nx) r30 k) (fun g31 r31 e31 => Xge g31 false (fun k => k (S.get 9) e0) (fun g32 r32 e32 => Xge g32 false (fun k => XvBinOV P .sub 3 (.const (.int .i64 1)) r32 (.atom (.int .i64 1)) k) (fun g33 r33 e33 => Xge g33 false (fun k => XvMinMax false r31 r33 k) (fun g34 r34 e34 => Xge g34 false (fun k => XvMinMax true (.atom (.int .i64 0)) r34 k) (fun g35 r35 e35 => Xge g35 false (fun k => XvIndexAddr P 25 r27 r35 k) (fun g36 r36 e36 => Xge g36 false (fun k => XvLoad P 9 (M S.hp S.nx) r36 k) (fun g37 r37 e37 => Xge g37 false (fun k => k (S.get 23) e0) (fun g38 r38 e38 => Xge g38 false (fun k => k (S.get 30) e0) (fun g39 r39 e39 => Xge g39 false (fun k => XvIndexAddr P 25 r38 r39 k) (fun g40 r40 e40 => Xge g40 false (fun k => XvLoad P 9 (M S.hp S.nx) r40 k) (fun g41 r41 e41 => Xge g41 false (fun k => XvBinOV P .neq 9 (.tmp 247) r37 r41 k) (fun g42 r42 e42 => XvPick g42 (.atom (.bool true)) r42 (fun r43 e43 => (trOk S.nx GD [⟨S.nx, 0, [], [], []⟩, ⟨S.nx, 0, [], [], []⟩, ⟨S.nx, 0, e2.rd, [], []⟩, ⟨S.nx, 0, e3.rd, [], []⟩, ⟨S.nx, 0, e4.rd, [], []⟩, ⟨S.nx, 0, [], [], []⟩, ⟨S.nx, 0, e6.rd, [], []⟩, ⟨S.nx, 0, e7.rd, [], []⟩, ⟨S.nx, 0, e8.rd, [], []⟩, ⟨S.nx, 0, e9.rd, [], []⟩, ⟨S.nx, 0, e10.rd, [], []⟩, ⟨S.nx, 0, e11.rd, [], []⟩, ⟨S.nx, 0, e12.rd, [], []⟩, ⟨S.nx, 0, [], [], []⟩, ⟨S.nx, 0, e14.rd, [], []⟩, ⟨S.nx, 0, e15.rd, [], []⟩, ⟨S.nx, 0, e16.rd, [], []⟩, ⟨S.nx, 0, e17.rd, [], []⟩, ⟨S.nx, 0, e18.rd, [], []⟩, ⟨S.nx, 0, e19.rd, [], []⟩, ⟨S.nx, 0, e20.rd, [], []⟩, ⟨S.nx, 0, e21.rd, [], []⟩, ⟨S.nx, 0, e22.rd, [], []⟩, ⟨S.nx, 0, e23.rd, [], []⟩, ⟨S.nx, 0, e24.rd, [], []⟩, ⟨S.nx, 0, e25.rd, [], []⟩, ⟨S.nx, 0, [], [], []⟩, ⟨S.nx, 0, e27.rd, [], []⟩, ⟨S.nx, 0, e28.rd, [], []⟩, ⟨S.nx, 0, e29.rd, [], []⟩, ⟨S.nx, 0, e30.rd, [], []⟩, ⟨S.nx, 0, e31.rd, [], []⟩, ⟨S.nx, 0, e32.rd, [], []⟩, ⟨S.nx, 0, e33.rd, [], []⟩, ⟨S.nx, 0, e34.rd, [], []⟩, ⟨S.nx, 0, e35.rd, [], []⟩, ⟨S.nx, 0, e36.rd, [], []⟩, ⟨S.nx, 0, e37.rd, [], []⟩, ⟨S.nx, 0, e38.rd, [], []⟩, ⟨S.nx, 0, e39.rd, [], []⟩, ⟨S.nx, 0, e40.rd, [], []⟩, ⟨S.nx, 0, e41.rd, [], []⟩, ⟨S.nx, 0, e42.rd, [], []⟩, ⟨S.nx, 0, e43.rd, [], []⟩] = true ∧ K ⟨[(8, S.get 8), (9, S.get 9), (21, S.get 21), (23, S.get 23), (27, S.get 27), (29, S.get 29), (30, S.get 30), (249, r43)], S.hp, S.nx, S.gh⟩))))))))))))))))))))))))))))))))))))))))) fun K hK => ?_
        repeat' (first | (refine hK _ ?_; clear hK K) | (refine (?_ : trOk _ _ _ = true); kernel_rfl) | ((first | refine xG_intro (fun hg => ?_) (fun hg => ?_) | refine fun (hg : (_ : Prop)) => ?_) <;> ((try simp only [BQ] at hg); try (exfalso; omega))) | refine And.intro ?_ ?_ | exact cl | exact one_encP _ | refine one_take ?_ _ | refine one_drop ?_ _ | simp (maxSteps := 2000000) only [↓SD, push_cast, Nat.reduceAdd, Nat.reduceSub, Nat.reduceMul, Nat.reduceLT, Nat.reduceLeDiff, Nat.reduceEqDiff, Int.reduceToNat, reduceIte, reduceCtorEq, Int.reduceLE, Int.reduceLT, Int.reduceNeg, ints, strs, encI, encS, encSpec, pairs, paths, madeP, ren_madeV, sealed_madeV, noOb_madeV, dec_self, beq_self_eq_true, getD_encI (show i < o.length by omega), dec_no (show ¬ li o i < 0 by omega), dec_no (show ¬ (B.length : Int) ≤ li o i by omega), wrap_id (x := (B.length : Int) - 1) (by omega) (by omega), (show min (li o i) ((B.length : Int) - 1) = li o i by omega), (show max 0 (li o i) = li o i by omega), metL_len, getD_encO (show (li o i).toNat < (metL B.length o i).length by rw [metL_len]; omega), hmet, encO, getD_encS (show (li o i).toNat < B.length by omega), getD_encS (show i < (o.map fun i => ls B i.toNat).length by rw [List.length_map]; omega), hlm])
        all_goals try simp (disch := omega) only [wrap_id, wrap8_id]
        all_goals
        refine Tri.cond rfl (fun h249 => ?_) (fun h249 => ?_)
        ·try (cases h249; done)
         all_goals (try simp only [CQ] at h249)
         all_goals
         refine sZ [6] (fun P S K => K ⟨[(6, (.atom (.bool false)))], S.hp, S.nx, S.gh⟩) fun K hK => ?_
         repeat' (first | (refine hK _ ?_; clear hK K) | ((first | refine xG_intro (fun hg => ?_) (fun hg => ?_) | refine fun (hg : (_ : Prop)) => ?_) <;> ((try simp only [BQ] at hg); try (exfalso; omega))) | refine And.intro ?_ ?_ | exact cl | exact one_encP _ | refine one_take ?_ _ | refine one_drop ?_ _ | (refine st ?_; try simp only [encSpec, pairs, paths, madeP, ren_madeV, sealed_madeV, noOb_madeV, dec_self, beq_self_eq_true]) | simp only [encSpec, pairs, paths, madeP, ren_madeV, sealed_madeV, noOb_madeV, dec_self, beq_self_eq_true])
         all_goals
         refine Tri.ret ?_
         show ResOk _ _ _ _
         exfalso; simp_all
        ·try (cases h249; done)
         all_goals (try simp only [CQ] at h249)
         all_goals
         refine Tri.skip ?_
         refine sZ [8, 9, 21, 23, 27, 29, 30] (fun P S K => XvIndexAddr P 22 (S.get 27) (S.get 30) (fun r3 _ => XvLoad P 3 (M S.hp S.nx) r3 (fun r4 _ => XvIndexAddr P 65 (S.get 29) r4 (fun r5 _ => XvStore P 4 (M S.hp S.nx) r5 (.atom (.bool true)) (fun r6 e6 => K ⟨[(8, S.get 8), (9, S.get 9), (21, S.get 21), (23, S.get 23), (27, S.get 27), (29, S.get 29), (30, S.get 30)], (Eff.hp e6 S.nx S.hp), (S.nx + e6.add.length), S.gh⟩))))) fun K hK => ?_
         repeat' (first | (refine hK _ ?_; clear hK K) | ((first | refine xG_intro (fun hg => ?_) (fun hg => ?_) | refine fun (hg : (_ : Prop)) => ?_) <;> ((try simp only [BQ] at hg); try (exfalso; omega))) | refine And.intro ?_ ?_ | exact cl | exact one_encP _ | refine one_take ?_ _ | refine one_drop ?_ _ | (refine st ?_; try simp only [encSpec, pairs, paths, madeP, ren_madeV, sealed_madeV, noOb_madeV, dec_self, beq_self_eq_true, getD_encI (show i < o.length by omega), metL_len, getD_encO (show (li o i).toNat < (metL B.length o i).length by rw [metL_len]; omega), hmet, encO]) | simp only [encSpec, pairs, paths, madeP, ren_madeV, sealed_madeV, noOb_madeV, dec_self, beq_self_eq_true, getD_encI (show i < o.length by omega), metL_len, getD_encO (show (li o i).toNat < (metL B.length o i).length by rw [metL_len]; omega), hmet, encO])
         rw [met_set hoi hiB]
         obtain ⟨j, hj⟩ : ∃ j, j = i - 1 := ⟨_, rfl⟩
         have hxj : 0 < i → 0 ≤ li o j ∧ li o j < (B.length : Int) := fun h => hoi.rng j (by omega)
         all_goals
         rcases Nat.eq_zero_or_pos i with hi0 | hi0
         all_goals
         refine sD 21 [8, 9, 21, 23, 27, 29, 30, 276] (fun P GD S K => XvBinOV P .gtr 3 (.const (.int .i64 0)) (S.get 30) (.atom (.int .i64 0)) (fun r1 e1 => Xge r1 true (fun k => k (S.get 21) e0) (fun g3 r3 e3 => Xge g3 true (fun k => k (S.get 27) e0) (fun g4 r4 e4 => Xge g4 true (fun k => k (S.get 30) e0) (fun g5 r5 e5 => Xge g5 true (fun k => XvIndexAddr P 22 r4 r5 k) (fun g6 r6 e6 => Xge g6 true (fun k => XvLoad P 3 (M S.hp S.nx) r6 k) (fun g7 r7 e7 => Xge g7 true (fun k => XvIndexAddr P 22 r3 r7 k) (fun g8 r8 e8 => Xge g8 true (fun k => XvLoad P 3 (M S.hp S.nx) r8 k) (fun g9 r9 e9 => Xge g9 true (fun k => k (S.get 21) e0) (fun g10 r10 e10 => Xge g10 true (fun k => k (S.get 27) e0) (fun g11 r11 e11 => Xge g11 true (fun k => k (S.get 30) e0) (fun g12 r12 e12 => Xge g12 true (fun k => XvBinOV P .sub 3 (.const (.int .i64 1)) r12 (.atom (.int .i64 1)) k) (fun g13 r13 e13 => Xge g13 true (fun k => XvMinMax true r13 (.atom (.int .i64 0)) k) (fun g14 r14 e14 => Xge g14 true (fun k => XvIndexAddr P 22 r11 r14 k) (fun g15 r15 e15 => Xge g15 true (fun k => XvLoad P 3 (M S.hp S.nx) r15 k) (fun g16 r16 e16 => Xge g16 true (fun k => XvIndexAddr P 22 r10 r16 k) (fun g17 r17 e17 => Xge g17 true (fun k => XvLoad P 3 (M S.hp S.nx) r17 k) (fun g18 r18 e18 => Xge g18 true (fun k => XvBinOV P .lss 3 (.tmp 274) r9 r18 k) (fun g19 r19 e19 => XvPick g19 r19 (.atom (.bool false)) (fun r20 e20 => (trOk S.nx GD [⟨S.nx, 0, [], [], []⟩, ⟨S.nx, 0, e1.rd, [], []⟩, ⟨S.nx, 0, [], [], []⟩, ⟨S.nx, 0, e3.rd, [], []⟩, ⟨S.nx, 0, e4.rd, [], []⟩, ⟨S.nx, 0, e5.rd, [], []⟩, ⟨S.nx, 0, e6.rd, [], []⟩, ⟨S.nx, 0, e7.rd, [], []⟩, ⟨S.nx, 0, e8.rd, [], []⟩, ⟨S.nx, 0, e9.rd, [], []⟩, ⟨S.nx, 0, e10.rd, [], []⟩, ⟨S.nx, 0, e11.rd, [], []⟩, ⟨S.nx, 0, e12.rd, [], []⟩, ⟨S.nx, 0, e13.rd, [], []⟩, ⟨S.nx, 0, e14.rd, [], []⟩, ⟨S.nx, 0, e15.rd, [], []⟩, ⟨S.nx, 0, e16.rd, [], []⟩, ⟨S.nx, 0, e17.rd, [], []⟩, ⟨S.nx, 0, e18.rd, [], []⟩, ⟨S.nx, 0, e19.rd, [], []⟩, ⟨S.nx, 0, e20.rd, [], []⟩] = true ∧ K ⟨[(8, S.get 8), (9, S.get 9), (21, S.get 21), (23, S.get 23), (27, S.get 27), (29, S.get 29), (30, S.get 30), (276, r20)], S.hp, S.nx, S.gh⟩))))))))))))))))))))) fun K hK => ?_
         repeat' (first | (refine hK _ ?_; clear hK K) | (refine (?_ : trOk _ _ _ = true); kernel_rfl) | ((first | refine xG_intro (fun hg => ?_) (fun hg => ?_) | refine fun (hg : (_ : Prop)) => ?_) <;> ((try simp only [BQ] at hg); try (exfalso; omega))) | refine And.intro ?_ ?_ | exact cl | exact one_encP _ | refine one_take ?_ _ | refine one_drop ?_ _ | simp (maxSteps := 2000000) only [↓SD, push_cast, Nat.reduceAdd, Nat.reduceSub, Nat.reduceMul, Nat.reduceLT, Nat.reduceLeDiff, Nat.reduceEqDiff, Int.reduceToNat, reduceIte, reduceCtorEq, Int.reduceLE, Int.reduceLT, Int.reduceNeg, ints, strs, encI, encS, encSpec, pairs, paths, madeP, ren_madeV, sealed_madeV, noOb_madeV, dec_self, beq_self_eq_true, dec_yes (show (0 : Int) < (i : Int) by omega), getD_encI (show i < o.length by omega), getD_encI (show j < o.length by omega), (show IntKind.i64.wrap ((i : Int) - 1) = (j : Int) by rw [wrap_id (by omega) (by omega)]; omega), (show max (j : Int) 0 = (j : Int) by omega), cntL_len, getD_encI (show (li o i).toNat < (cntL c B.length).length by rw [cntL_len]; omega), getD_encI (show (li o j).toNat < (cntL c B.length).length by have := hoi.rng j (by omega); rw [cntL_len]; omega), dec_no (show ¬ li (cntL c B.length) (li o i).toNat < li (cntL c B.length) (li o j).toNat by have h1 := hoi.rng j (by omega); have h2 := cnt_mono hord (hoi.sorted i hi0 hiB) B.length; rw [cntL_li (by omega), cntL_li (by omega)]; rw [← hj] at h2; omega), (hoi.rng j (by omega)).1, (hoi.rng j (by omega)).2, hx.1, hx.2] | simp (maxSteps := 2000000) only [↓SD, push_cast, Nat.reduceAdd, Nat.reduceSub, Nat.reduceMul, Nat.reduceLT, Nat.reduceLeDiff, Nat.reduceEqDiff, Int.reduceToNat, reduceIte, reduceCtorEq, Int.reduceLE, Int.reduceLT, Int.reduceNeg, ints, strs, encI, encS, encSpec, pairs, paths, madeP, ren_madeV, sealed_madeV, noOb_madeV, dec_self, beq_self_eq_true, dec_no (show ¬ (0 : Int) < (i : Int) by omega)])
         all_goals try simp (disch := omega) only [wrap_id, wrap8_id]
         all_goals
         refine Tri.cond rfl (fun h276 => ?_) (fun h276 => ?_)
         ·try (cases h276; done)
          all_goals (try simp only [CQ] at h276)
          all_goals
          refine sZ [6] (fun P S K => K ⟨[(6, (.atom (.bool false)))], S.hp, S.nx, S.gh⟩) fun K hK => ?_
          repeat' (first | (refine hK _ ?_; clear hK K) | ((first | refine xG_intro (fun hg => ?_) (fun hg => ?_) | refine fun (hg : (_ : Prop)) => ?_) <;> ((try simp only [BQ] at hg); try (exfalso; omega))) | refine And.intro ?_ ?_ | exact cl | exact one_encP _ | refine one_take ?_ _ | refine one_drop ?_ _ | (refine st ?_; try simp only [encSpec, pairs, paths, madeP, ren_madeV, sealed_madeV, noOb_madeV, dec_self, beq_self_eq_true]) | simp only [encSpec, pairs, paths, madeP, ren_madeV, sealed_madeV, noOb_madeV, dec_self, beq_self_eq_true])
          all_goals
          refine Tri.ret ?_
          show ResOk _ _ _ _
          exact ResOk.val lsrW36 lpvW36
         ·try (cases h276; done)
          all_goals (try simp only [CQ] at h276)
          all_goals
          refine Tri.skip ?_
          refine rZ [8, 9, 21, 23, 27, 29, 30] (fun P S K => XvBinOV P .add 3 (.const (.int .i64 1)) (S.get 30) (.atom (.int .i64 1)) (fun r1 _ => K ⟨[(8, S.get 8), (9, S.get 9), (21, S.get 21), (23, S.get 23), (27, S.get 27), (29, S.get 29), (30, r1)], S.hp, S.nx, S.gh⟩)) fun K hK => ?_
          repeat' (first | (refine hK _ ?_; clear hK K) | ((first | refine xG_intro (fun hg => ?_) (fun hg => ?_) | refine fun (hg : (_ : Prop)) => ?_) <;> ((try simp only [BQ] at hg); try (exfalso; omega))) | refine And.intro ?_ ?_ | exact cl | exact one_encP _ | refine one_take ?_ _ | refine one_drop ?_ _ | (refine st ?_; try simp only [encSpec, pairs, paths, madeP, ren_madeV, sealed_madeV, noOb_madeV, dec_self, beq_self_eq_true]) | simp only [encSpec, pairs, paths, madeP, ren_madeV, sealed_madeV, noOb_madeV, dec_self, beq_self_eq_true])
          all_goals try simp (disch := omega) only [wrap_id, wrap8_id]
          all_goals
          refine ⟨⟨i + 1, by omega⟩, [0], by dsimp only; omega, ?_⟩
          exact leqW36
       ·try (cases h203; done)
        all_goals (try simp only [CQ] at h203)
        all_goals
        refine Tri.exit ?_
        refine sZ [6] (fun P S K => XvFnIV P (M S.hp S.nx) (.fn 19 []) [] (fun r0 e0 => K ⟨[(6, r0)], (Eff.hp e0 S.nx S.hp), (S.nx + e0.add.length), S.gh⟩)) fun K hK => ?_
        repeat' (first | (refine hK _ ?_; clear hK K) | ((first | refine xG_intro (fun hg => ?_) (fun hg => ?_) | refine fun (hg : (_ : Prop)) => ?_) <;> ((try simp only [BQ] at hg); try (exfalso; omega))) | refine And.intro ?_ ?_ | exact cl | exact one_encP _ | refine one_take ?_ _ | refine one_drop ?_ _ | refine .inl ⟨_, _, hcmp a b ha1 hb1, ?_⟩ | refine ⟨_, _, hcmp a b ha1 hb1, ?_⟩ | refine .inl ⟨_, _, hcmp b a hb1 ha1, ?_⟩ | refine ⟨_, _, hcmp b a hb1 ha1, ?_⟩ | refine .inl ⟨_, _, hTot, ?_⟩ | refine ⟨_, _, hTot, ?_⟩ | refine .inl ⟨_, _, hRank, ?_⟩ | refine ⟨_, _, hRank, ?_⟩ | refine .inl ⟨_, _, hSort, ?_⟩ | refine ⟨_, _, hSort, ?_⟩ | refine .inl ⟨_, _, hPaths, ?_⟩ | refine ⟨_, _, hPaths, ?_⟩ | refine .inl ⟨_, _, lives_pure, ?_⟩ | refine ⟨_, _, lives_pure, ?_⟩ | (refine st ?_; try simp only [encSpec, pairs, paths, madeP, ren_madeV, sealed_madeV, noOb_madeV, dec_self, beq_self_eq_true]) | simp only [encSpec, pairs, paths, madeP, ren_madeV, sealed_madeV, noOb_madeV, dec_self, beq_self_eq_true])
        all_goals
        refine Tri.ret ?_
        show ResOk _ _ _ _
        exact ResOk.val lsrW36 lpvW36
end Go.Proofs.YtfnkciboencifaaDoor
