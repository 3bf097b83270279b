/-
  Walks: the reference model of collations: keys.
-/
import Derived.Test.YtfnkciboencifaaDoorOW1
import Derived.Test.YtfnkciboencifaaDoorOW6
set_option linter.all false
namespace Go.Proofs.YtfnkciboencifaaDoor
open Go Go.RowKit
set_option linter.unusedSimpArgs false
set_option linter.unusedVariables false
set_option maxRecDepth 20000
set_option maxHeartbeats 2000000
theorem leqW7 {p : Prop} (h : p := by (refine ⟨4, ?_, ?_, rfl, by simp, rfl, fun _ h _ => absurd h (Nat.not_lt_zero _)⟩ <;> (simp only [List.forall_mem_cons]; repeat' (first | refine And.intro ?_ ?_ | (intro p hp; exact absurd hp List.not_mem_nil) | rfl | exact sp (pure_spec _) | exact (sealed_pure _ _ _ (pure_ints _)).trans (ren_ints _ _).symm | exact (sealed_pure _ _ _ (pure_strs _)).trans (ren_strs _ _).symm | exact sp (by assumption) | (intro o ho; cases ho; refine ⟨by decide, ?_⟩; first | (refine LeqS.row rfl ?_ ?_; (next => (first | rfl | (simp only [List.map_append, List.map_cons, List.map_nil, List.append_nil, List.nil_append, List.append_assoc, List.cons_append, encI, encS, ints, strs]; done) | (simp [encI, encS, ints, strs]; done))); (next => (first | rfl | exact pureL_encI _ | exact pureL_encS _ | exact pureL_ints _ | exact pureL_strs _ | (simp [pureL_append, pureL_encI, pureL_encS, pureL_ints, pureL_strs, pureL, PV.pure, pure_ints, pure_strs, pure_spec]; done))); done) | refine ⟨_, rfl, rfl, ?_⟩) | (simp [St.born, St.known, retV, St.get, St.obj, lk, sealed, PV.ren, renL, rmap, AO.ren, ints, strs, encI, encS, map_sealed_encI, map_sealed_encS, map_sealed_ints, map_sealed_strs, map_ren_encI, map_ren_encS, map_ren_ints, map_ren_strs, renL_encI, renL_encS, renL_ints, renL_strs, ren_spec] <;> omega))))) : p := h
theorem lpuW7 {p : Prop} (h : p := by (first | rfl | exact pureL_encI _ | exact pureL_encS _ | exact pureL_ints _ | exact pureL_strs _ | (simp [pureL_append, pureL_encI, pureL_encS, pureL_ints, pureL_strs, pureL, PV.pure, pure_ints, pure_strs, pure_spec]; done))) : p := h
theorem lelW7 {p : Prop} (h : p := by (first | rfl | (simp only [List.map_append, List.map_cons, List.map_nil, List.append_nil, List.nil_append, List.append_assoc, List.cons_append, encI, encS, ints, strs]; done) | (simp [encI, encS, ints, strs]; done))) : p := h
noncomputable def keyL (s : SpecD) : Bool → List ByteArray → List Int × List Int
  | _, [] => ([], [])
  | fst, w :: l => ((if !fst && s.words then [0] else []) ++ (wordS s w).1 ++ (keyL s false l).1, (wordS s w).2 ++ (keyL s false l).2)
noncomputable def keyOf (s : SpecD) (t : ByteArray) : List Int := (keyL s true (counted s t)).1 ++ [-1] ++ (keyL s true (counted s t)).2
theorem wordF_len (s : SpecD) : ∀ (f : Nat) (l : List UInt8), (wordF s f l).1.length ≤ 3 * l.length ∧ (wordF s f l).2.length ≤ l.length
  | 0, l => by simp [wordF]
  | f + 1, [] => by simp [wordF]
  | f + 1, c :: t => by
    rw [wordF]
    split
    · rename_i h
      have hd : isDig c = true := by simp at h; exact h.2
      have h1 := wordF_len s f ((c :: t).dropWhile isDig)
      have h2 : ((c :: t).takeWhile isDig).length + ((c :: t).dropWhile isDig).length = (c :: t).length := by
        rw [← List.length_append, List.takeWhile_append_dropWhile]
      have h3 : (numOf ((c :: t).takeWhile isDig)).length ≤ ((c :: t).takeWhile isDig).length := by unfold numOf; rw [List.length_map]; exact dropWhile_le _ _
      have h4 : 1 ≤ ((c :: t).takeWhile isDig).length := by rw [List.takeWhile_cons, hd]; simp
      simp only [List.length_cons, List.length_append] at *
      omega
    · have h1 := wordF_len s f t
      split
      · simp only [List.length_cons]; omega
      · simp only [List.length_cons]; omega
theorem wordS_len (s : SpecD) (w : ByteArray) : (wordS s w).1.length ≤ 3 * w.size ∧ (wordS s w).2.length ≤ w.size := by
  have := wordF_len s w.size (bl w)
  rw [bl_len] at this
  exact this
theorem counted_sub (s : SpecD) (t : ByteArray) : ∀ x, x ∈ counted s t → x ∈ wordsS t := by
  unfold counted
  have : ∀ l : List ByteArray, ∀ x, x ∈ dropSkip s.skip l → x ∈ l := by
    intro l
    induction l with
    | nil => intro x hx; exact hx
    | cons a l ih =>
      intro x hx
      cases l with
      | nil => exact hx
      | cons b l =>
        rw [dropSkip] at hx
        split at hx
        · exact List.mem_cons_of_mem _ (ih x hx)
        · exact hx
  exact this _
theorem counted_len (s : SpecD) (t : ByteArray) : (counted s t).length ≤ t.size + 1 := by
  refine Nat.le_trans ?_ (words_len t)
  unfold counted
  have : ∀ l : List ByteArray, (dropSkip s.skip l).length ≤ l.length := by
    intro l
    induction l with
    | nil => exact Nat.le_refl _
    | cons a l ih =>
      cases l with
      | nil => exact Nat.le_refl _
      | cons b l =>
        rw [dropSkip]
        split
        · simp only [List.length_cons] at *; omega
        · exact Nat.le_refl _
  exact this _
theorem counted_size {s : SpecD} {t : ByteArray} {k : Nat} (h : k < (counted s t).length) : (ls (counted s t) k).size ≤ t.size := words_size t _ (counted_sub s t _ (ls_mem h))
structure KeyI (s : SpecD) (t : ByteArray) (ws : List ByteArray) (k : Nat) (a b : List Int) : Prop where
  le : k ≤ ws.length
  la : a.length ≤ k * (3 * t.size + 1)
  lb : b.length ≤ k * t.size
  core : keyL s true ws = (a ++ (keyL s (decide (k = 0)) (ws.drop k)).1, b ++ (keyL s (decide (k = 0)) (ws.drop k)).2)
theorem KeyI.start (s : SpecD) (t : ByteArray) (ws : List ByteArray) : KeyI s t ws 0 [] [] := ⟨Nat.zero_le _, by simp, by simp, by simp⟩
theorem KeyI.done {s : SpecD} {t : ByteArray} {ws : List ByteArray} {k : Nat} {a b : List Int} (h : KeyI s t ws k a b) (hk : ws.length ≤ k) : keyL s true ws = (a, b) := by
  have := h.core
  rw [List.drop_eq_nil_of_le hk, keyL] at this
  simpa using this
theorem KeyI.next {s : SpecD} {t : ByteArray} {ws : List ByteArray} {k : Nat} {a b z : List Int} (h : KeyI s t ws k a b) (hk : k < ws.length) (hs : (ls ws k).size ≤ t.size) (hz : z = if 0 < k ∧ s.words = true then [0] else []) :
    KeyI s t ws (k + 1) (a ++ z ++ (wordS s (ls ws k)).1) (b ++ (wordS s (ls ws k)).2) := by
  have hl := wordS_len s (ls ws k)
  have hzl : z.length ≤ 1 := by rw [hz]; split <;> simp
  refine ⟨hk, ?_, ?_, ?_⟩
  · have := h.la
    rw [Nat.succ_mul]
    simp only [List.length_append]; omega
  · have := h.lb
    rw [Nat.succ_mul]
    simp only [List.length_append]; omega
  · rw [h.core, drop_ls hk, keyL]
    have e : (if (!decide (k = 0) && s.words) = true then [(0 : Int)] else []) = z := by
      rw [hz]
      cases hw : s.words <;> by_cases h0 : k = 0 <;> simp [h0, Nat.pos_iff_ne_zero]
    rw [e]
    simp
theorem made_pure (s : SpecD) (t : ByteArray) (hs : Sane s) (ht : t.size ≤ 4096) : Pure Tryd.prog 47 [encSpec s, encS t] (ints (keyOf s t)) [] := by
  have hcl := counted_len s t
  refine Pure.intro (ts := [4]) Tryd.func47 (by kernel_rfl) rfl rfl rfl (Nat.le_of_ble_eq_true rfl) ?_ ?_
  · simp [encB, encS, encSpec, PV.pure, pureL, pure_strs]
  refine sZ [1, 2] (fun P S K => XvBox S.nx (S.get 0) (fun r0 e0 => K ⟨[(1, S.get 1), (2, r0)], (Eff.hp e0 S.nx S.hp), (S.nx + e0.add.length), S.gh⟩)) fun K hK => ?_
  repeat' (first | (refine hK _ ?_; clear hK K) | ((first | refine xG_intro (fun hg => ?_) (fun hg => ?_) | refine fun (hg : (_ : Prop)) => ?_) <;> ((try simp only [BQ] at hg); try (exfalso; omega))) | refine And.intro ?_ ?_ | exact cl | refine one_take ?_ _ | refine one_drop ?_ _ | (refine st ?_; try simp only [encSpec]) | simp only [encSpec])
  all_goals
  refine sY [1, 2, 5] (fun P S K => K ⟨[(1, S.get 1), (2, S.get 2), (5, (.atom (.slice none 0 0)))], S.hp, S.nx, S.gh⟩) ?_
  refine Tri.born 5 1 rfl ?_
  all_goals
  refine sY [1, 2, 5, 6] (fun P S K => K ⟨[(1, S.get 1), (2, S.get 2), (5, S.get 5), (6, (.atom (.slice none 0 0)))], S.hp, S.nx, S.gh⟩) ?_
  refine Tri.born 6 1 rfl ?_
  all_goals
  refine sZ [2, 5, 6, 7] (fun P S K => XvLoad P 35 (M S.hp S.nx) (S.get 2) (fun r0 _ => XvFnIV P (M S.hp S.nx) (.fn 70 []) [r0, (S.get 1)] (fun r2 e2 => K ⟨[(2, S.get 2), (5, S.get 5), (6, S.get 6), (7, r2)], (Eff.hp e2 S.nx S.hp), (S.nx + e2.add.length), S.gh⟩))) fun K hK => ?_
  repeat' (first | (refine hK _ ?_; clear hK K) | ((first | refine xG_intro (fun hg => ?_) (fun hg => ?_) | refine fun (hg : (_ : Prop)) => ?_) <;> ((try simp only [BQ] at hg); try (exfalso; omega))) | refine And.intro ?_ ?_ | exact cl | refine one_take ?_ _ | refine one_drop ?_ _ | refine .inl ⟨_, _, Counted_pure s t hs (by omega), ?_⟩ | refine ⟨_, _, Counted_pure s t hs (by omega), ?_⟩ | (refine st ?_; try simp only [encSpec]) | simp only [encSpec])
  all_goals
  refine Tri.seq ?_
  refine sY [2, 5, 6, 7, 8] (fun P S K => K ⟨[(2, S.get 2), (5, S.get 5), (6, S.get 6), (7, S.get 7), (8, (.atom (.int .i64 0)))], S.hp, S.nx, S.gh⟩) ?_
  all_goals
  refine Tri.block ?_
  refine Tri.loop (α := (a : List Int) ×' (b : List Int) ×' (k : Nat) ×' (KeyI s t (counted s t) k a b)) (fun z => (fun (a : List Int) (b : List Int) (k : Nat) => (⟨[(2, .ptr 0 4 0 0), (5, .ob 1 1 0 a.length), (6, .ob 2 1 0 b.length), (7, strs (counted s t)), (8, encI k)], [(0, some ⟨4, [encSpec s]⟩), (1, some ⟨1, a.map encI⟩), (2, some ⟨1, b.map encI⟩)], 3, []⟩ : St)) z.1 z.2.1 z.2.2.1) (fun z => (fun (a : List Int) (b : List Int) (k : Nat) => (counted s t).length - k) z.1 z.2.1 z.2.2.1) ⟨[], [], 0, KeyI.start s t _⟩ [0, 1, 2] ?_ ?_
  ·exact leqW7
  ·rintro ⟨a, b, k, hK0⟩
   have hkl := hK0.le
   have hla : a.length ≤ 60000000 := Nat.le_trans hK0.la (Nat.le_trans (Nat.mul_le_mul (show k ≤ 4097 by omega) (show 3 * t.size + 1 ≤ 12289 by omega)) (by decide))
   have hlb : b.length ≤ 60000000 := Nat.le_trans hK0.lb (Nat.le_trans (Nat.mul_le_mul (show k ≤ 4097 by omega) (show t.size ≤ 4096 by omega)) (by decide))
   refine Tri.seq ?_
   refine sZ [2, 5, 6, 7, 8, 17] (fun P S K => XvLen P 25 (S.get 7) (fun r2 _ => XvBinOV P .lss 3 (.tmp 16) (S.get 8) r2 (fun r3 _ => K ⟨[(2, S.get 2), (5, S.get 5), (6, S.get 6), (7, S.get 7), (8, S.get 8), (17, r3)], S.hp, S.nx, S.gh⟩))) fun K hK => ?_
   repeat' (first | (refine hK _ ?_; clear hK K) | ((first | refine xG_intro (fun hg => ?_) (fun hg => ?_) | refine fun (hg : (_ : Prop)) => ?_) <;> ((try simp only [BQ] at hg); try (exfalso; omega))) | refine And.intro ?_ ?_ | exact cl | refine one_take ?_ _ | refine one_drop ?_ _ | (refine st ?_; try simp only [encSpec]) | simp only [encSpec])
   all_goals
   refine Tri.cond rfl (fun h17 => ?_) (fun h17 => ?_)
   ·try (cases h17; done)
    all_goals (try simp only [CQ] at h17)
    all_goals
    refine Tri.skip ?_
    refine Tri.seq ?_
    refine Tri.block ?_
    have hkc : k < (counted s t).length := by omega
    have hsz := counted_size hkc
    have hwl := wordS_len s (ls (counted s t) k)
    refine sD 11 [2, 5, 6, 7, 8, 9, 10] (fun P GD S K => XvLoad P 35 (M S.hp S.nx) (S.get 2) (fun r0 e0 => XvIndexAddr P 25 (S.get 7) (S.get 8) (fun r3 e3 => XvLoad P 9 (M S.hp S.nx) r3 (fun r4 e4 => XvFnV P (M S.hp S.nx) (.fn 71 []) [r0, r4] (fun r5 e5 => XvExtract r5 0 (fun r7 e7 => XvExtract r5 1 (fun r8 e8 => (trOk S.nx GD [⟨S.nx, 0, e0.rd, [], []⟩, ⟨S.nx, 0, [], [], []⟩, ⟨S.nx, 0, [], [], []⟩, ⟨S.nx, 0, e3.rd, [], []⟩, ⟨S.nx, 0, e4.rd, [], []⟩, (Eff.tr e5 S.nx), ⟨(S.nx + e5.add.length), 0, [], [], []⟩, ⟨(S.nx + e5.add.length), 0, e7.rd, [], []⟩, ⟨(S.nx + e5.add.length), 0, e8.rd, [], []⟩, ⟨(S.nx + e5.add.length), 0, [], [], []⟩, ⟨(S.nx + e5.add.length), 0, [], [], []⟩] = true ∧ K ⟨[(2, S.get 2), (5, S.get 5), (6, S.get 6), (7, S.get 7), (8, S.get 8), (9, r7), (10, r8)], (Eff.hp e5 S.nx S.hp), (S.nx + e5.add.length), S.gh⟩)))))))) fun K hK => ?_
    repeat' (first | (refine hK _ ?_; clear hK K) | (refine (?_ : trOk _ _ _ = true); kernel_rfl) | ((first | refine xG_intro (fun hg => ?_) (fun hg => ?_) | refine fun (hg : (_ : Prop)) => ?_) <;> ((try simp only [BQ] at hg); try (exfalso; omega))) | refine And.intro ?_ ?_ | exact cl | refine one_take ?_ _ | refine one_drop ?_ _ | refine .inl ⟨_, _, word_pure s (ls (counted s t) k) hs (by omega), ?_⟩ | refine ⟨_, _, word_pure s (ls (counted s t) k) hs (by omega), ?_⟩ | (refine st ?_; try simp only [encSpec, getD_encS hkc]) | simp only [encSpec, getD_encS hkc])
    all_goals
    refine Tri.seq ?_
    refine sZ [2, 5, 6, 7, 8, 9, 10, 34] (fun P S K => XvBinOV P .gtr 3 (.const (.int .i64 0)) (S.get 8) (.atom (.int .i64 0)) (fun r1 _ => Xgq r1 true (fun k => XvFieldAddr P 35 0 (S.get 2) (fun r3 _ => k r3)) (fun g3 r3 => Xgq g3 true (fun k => XvLoad P 4 (M S.hp S.nx) r3 (fun r4 _ => k r4)) (fun g4 r4 => XvPick g4 r4 (.atom (.bool false)) (fun r5 _ => K ⟨[(2, S.get 2), (5, S.get 5), (6, S.get 6), (7, S.get 7), (8, S.get 8), (9, S.get 9), (10, S.get 10), (34, r5)], S.hp, S.nx, S.gh⟩))))) fun K hK => ?_
    repeat' (first | (refine hK _ ?_; clear hK K) | ((first | refine xG_intro (fun hg => ?_) (fun hg => ?_) | refine fun (hg : (_ : Prop)) => ?_) <;> ((try simp only [BQ] at hg); try (exfalso; omega))) | refine And.intro ?_ ?_ | exact cl | refine one_take ?_ _ | refine one_drop ?_ _ | (refine st ?_; try simp only [encSpec]) | simp only [encSpec])
    all_goals
    refine Tri.cond rfl (fun h34 => ?_) (fun h34 => ?_)
    ·try (cases h34; done)
     all_goals (try simp only [CQ] at h34)
     all_goals
     refine rZ [2, 5, 6, 7, 8, 9, 10] (fun P S K => XvBuildS P 22 1 S.nx [(0, (.atom (.int .i64 0)))] (fun r1 e1 => (22 = 22 ∧ XvAppend P 22 (M (Eff.hp e1 S.nx S.hp) (S.nx + e1.add.length)) (S.get 5) r1 (fun r2 e2 => K ⟨[(2, S.get 2), (5, r2), (6, S.get 6), (7, S.get 7), (8, S.get 8), (9, S.get 9), (10, S.get 10)], (Eff.hp e2 (S.nx + e1.add.length) (Eff.hp e1 S.nx S.hp)), ((S.nx + e1.add.length) + e2.add.length), S.gh⟩)))) fun K hK => ?_
     repeat' (first | (refine hK _ ?_; clear hK K) | ((first | refine xG_intro (fun hg => ?_) (fun hg => ?_) | refine fun (hg : (_ : Prop)) => ?_) <;> ((try simp only [BQ] at hg); try (exfalso; omega))) | refine And.intro ?_ ?_ | exact cl | refine one_take ?_ _ | refine one_drop ?_ _ | (refine st ?_; try simp only [encSpec]) | simp only [encSpec])
     all_goals
     refine sZ [2, 5, 6, 7, 8, 10] (fun P S K => (22 = 22 ∧ XvAppend P 22 (M S.hp S.nx) (S.get 5) (S.get 9) (fun r2 e2 => K ⟨[(2, S.get 2), (5, r2), (6, S.get 6), (7, S.get 7), (8, S.get 8), (10, S.get 10)], (Eff.hp e2 S.nx S.hp), (S.nx + e2.add.length), S.gh⟩))) fun K hK => ?_
     repeat' (first | (refine hK _ ?_; clear hK K) | ((first | refine xG_intro (fun hg => ?_) (fun hg => ?_) | refine fun (hg : (_ : Prop)) => ?_) <;> ((try simp only [BQ] at hg); try (exfalso; omega))) | refine And.intro ?_ ?_ | exact cl | refine one_take ?_ _ | refine one_drop ?_ _ | (refine st ?_; try simp only [encSpec]) | simp only [encSpec])
     all_goals
     refine rZ [2, 5, 6, 7, 8] (fun P S K => (22 = 22 ∧ XvAppend P 22 (M S.hp S.nx) (S.get 6) (S.get 10) (fun r2 e2 => K ⟨[(2, S.get 2), (5, S.get 5), (6, r2), (7, S.get 7), (8, S.get 8)], (Eff.hp e2 S.nx S.hp), (S.nx + e2.add.length), S.gh⟩))) fun K hK => ?_
     repeat' (first | (refine hK _ ?_; clear hK K) | ((first | refine xG_intro (fun hg => ?_) (fun hg => ?_) | refine fun (hg : (_ : Prop)) => ?_) <;> ((try simp only [BQ] at hg); try (exfalso; omega))) | refine And.intro ?_ ?_ | exact cl | refine one_take ?_ _ | refine one_drop ?_ _ | (refine st ?_; try simp only [encSpec]) | simp only [encSpec])
     all_goals
     refine rY [2, 5, 6, 7, 8] (fun P S K => XvBinOV P .add 3 (.const (.int .i64 1)) (S.get 8) (.atom (.int .i64 1)) (fun r1 _ => K ⟨[(2, S.get 2), (5, S.get 5), (6, S.get 6), (7, S.get 7), (8, r1)], S.hp, S.nx, S.gh⟩)) ?_
     all_goals try simp (disch := omega) only [wrap_id, wrap8_id]
     all_goals
     first
     | (refine ⟨⟨_, _, k + 1, hK0.next hkc hsz (if_pos ⟨by omega, by assumption⟩).symm⟩, [0, 5, 6], by dsimp only; omega, ?_⟩
        exact leqW7)
     | (refine ⟨⟨_, _, k + 1, hK0.next hkc hsz (if_neg (by rintro ⟨h1, h2⟩; first | omega | (rw [h2] at h34; cases h34))).symm⟩, [0, 3, 4], by dsimp only; omega, ?_⟩
        exact leqW7)
    ·try (cases h34; done)
     all_goals (try simp only [CQ] at h34)
     all_goals
     refine Tri.skip ?_
     refine sZ [2, 5, 6, 7, 8, 10] (fun P S K => (22 = 22 ∧ XvAppend P 22 (M S.hp S.nx) (S.get 5) (S.get 9) (fun r2 e2 => K ⟨[(2, S.get 2), (5, r2), (6, S.get 6), (7, S.get 7), (8, S.get 8), (10, S.get 10)], (Eff.hp e2 S.nx S.hp), (S.nx + e2.add.length), S.gh⟩))) fun K hK => ?_
     repeat' (first | (refine hK _ ?_; clear hK K) | ((first | refine xG_intro (fun hg => ?_) (fun hg => ?_) | refine fun (hg : (_ : Prop)) => ?_) <;> ((try simp only [BQ] at hg); try (exfalso; omega))) | refine And.intro ?_ ?_ | exact cl | refine one_take ?_ _ | refine one_drop ?_ _ | (refine st ?_; try simp only [encSpec]) | simp only [encSpec])
     all_goals
     refine rZ [2, 5, 6, 7, 8] (fun P S K => (22 = 22 ∧ XvAppend P 22 (M S.hp S.nx) (S.get 6) (S.get 10) (fun r2 e2 => K ⟨[(2, S.get 2), (5, S.get 5), (6, r2), (7, S.get 7), (8, S.get 8)], (Eff.hp e2 S.nx S.hp), (S.nx + e2.add.length), S.gh⟩))) fun K hK => ?_
     repeat' (first | (refine hK _ ?_; clear hK K) | ((first | refine xG_intro (fun hg => ?_) (fun hg => ?_) | refine fun (hg : (_ : Prop)) => ?_) <;> ((try simp only [BQ] at hg); try (exfalso; omega))) | refine And.intro ?_ ?_ | exact cl | refine one_take ?_ _ | refine one_drop ?_ _ | (refine st ?_; try simp only [encSpec]) | simp only [encSpec])
     all_goals
     refine rY [2, 5, 6, 7, 8] (fun P S K => XvBinOV P .add 3 (.const (.int .i64 1)) (S.get 8) (.atom (.int .i64 1)) (fun r1 _ => K ⟨[(2, S.get 2), (5, S.get 5), (6, S.get 6), (7, S.get 7), (8, r1)], S.hp, S.nx, S.gh⟩)) ?_
     all_goals try simp (disch := omega) only [wrap_id, wrap8_id]
     all_goals
     first
     | (refine ⟨⟨_, _, k + 1, hK0.next hkc hsz (if_pos ⟨by omega, by assumption⟩).symm⟩, [0, 5, 6], by dsimp only; omega, ?_⟩
        exact leqW7)
     | (refine ⟨⟨_, _, k + 1, hK0.next hkc hsz (if_neg (by rintro ⟨h1, h2⟩; first | omega | (rw [h2] at h34; cases h34))).symm⟩, [0, 3, 4], by dsimp only; omega, ?_⟩
        exact leqW7)
   ·try (cases h17; done)
    all_goals (try simp only [CQ] at h17)
    all_goals
    refine Tri.exit ?_
    have hfin := hK0.done (by omega)
    refine sZ [4] (fun P S K => XvBuildS P 22 1 S.nx [(0, (.atom (.int .i64 (-1))))] (fun r1 e1 => (22 = 22 ∧ XvAppend P 22 (M (Eff.hp e1 S.nx S.hp) (S.nx + e1.add.length)) (S.get 5) r1 (fun r2 e2 => (22 = 22 ∧ XvAppend P 22 (M (Eff.hp e2 (S.nx + e1.add.length) (Eff.hp e1 S.nx S.hp)) ((S.nx + e1.add.length) + e2.add.length)) r2 (S.get 6) (fun r4 e4 => K ⟨[(4, r4)], (Eff.hp e4 ((S.nx + e1.add.length) + e2.add.length) (Eff.hp e2 (S.nx + e1.add.length) (Eff.hp e1 S.nx S.hp))), (((S.nx + e1.add.length) + e2.add.length) + e4.add.length), S.gh⟩)))))) fun K hK => ?_
    repeat' (first | (refine hK _ ?_; clear hK K) | ((first | refine xG_intro (fun hg => ?_) (fun hg => ?_) | refine fun (hg : (_ : Prop)) => ?_) <;> ((try simp only [BQ] at hg); try (exfalso; omega))) | refine And.intro ?_ ?_ | exact cl | refine one_take ?_ _ | refine one_drop ?_ _ | (refine st ?_; try simp only [encSpec]) | simp only [encSpec])
    all_goals
    refine Tri.ret ?_
    show ResOk _ _ _ _
    unfold keyOf
    rw [hfin]
    exact ResOk.frz 5 ((seal_row rfl rfl (by simp <;> omega) lpuW7).trans (congrArg (PV.sl 1) lelW7)) (by first | exact pure_ints _ | exact pure_strs _)
end Go.Proofs.YtfnkciboencifaaDoor
set_option linter.all false
namespace Go.Proofs.YtfnkciboencifaaDoor
open Go Go.RowKit
set_option linter.unusedSimpArgs false
set_option linter.unusedVariables false
set_option maxRecDepth 20000
set_option maxHeartbeats 2000000
theorem leqW8 {p : Prop} (h : p := by (refine ⟨4, ?_, ?_, rfl, by simp, rfl, fun _ h _ => absurd h (Nat.not_lt_zero _)⟩ <;> (simp only [List.forall_mem_cons]; repeat' (first | refine And.intro ?_ ?_ | (intro p hp; exact absurd hp List.not_mem_nil) | rfl | exact sp (pure_spec _) | exact (sealed_pure _ _ _ (pure_ints _)).trans (ren_ints _ _).symm | exact (sealed_pure _ _ _ (pure_strs _)).trans (ren_strs _ _).symm | exact sp (by assumption) | (intro o ho; cases ho; refine ⟨by decide, ?_⟩; first | (refine LeqS.row rfl ?_ ?_; (next => (first | rfl | (simp only [List.map_append, List.map_cons, List.map_nil, List.append_nil, List.nil_append, List.append_assoc, List.cons_append, encI, encS, ints, strs]; done) | (simp [encI, encS, ints, strs]; done))); (next => (first | rfl | exact pureL_encI _ | exact pureL_encS _ | exact pureL_ints _ | exact pureL_strs _ | (simp [pureL_append, pureL_encI, pureL_encS, pureL_ints, pureL_strs, pureL, PV.pure, pure_ints, pure_strs, pure_spec]; done))); done) | refine ⟨_, rfl, rfl, ?_⟩) | (simp [St.born, St.known, retV, St.get, St.obj, lk, sealed, PV.ren, renL, rmap, AO.ren, ints, strs, encI, encS, map_sealed_encI, map_sealed_encS, map_sealed_ints, map_sealed_strs, map_ren_encI, map_ren_encS, map_ren_ints, map_ren_strs, renL_encI, renL_encS, renL_ints, renL_strs, ren_spec] <;> omega))))) : p := h
theorem lstW8 {p : Prop} (h : p := by (first | rfl | (simp [St.born, St.known, retV, St.get, St.obj, lk, sealed, PV.ren, renL, rmap, AO.ren, ints, strs, encI, encS, map_sealed_encI, map_sealed_encS, map_sealed_ints, map_sealed_strs, map_ren_encI, map_ren_encS, map_ren_ints, map_ren_strs, renL_encI, renL_encS, renL_ints, renL_strs, ren_spec, take_map_len, List.take_length]; done))) : p := h
theorem lpvW8 {p : Prop} (h : p := by (first | rfl | (simp [pure_ints, pure_strs, PV.pure, pureL, pureL_encI, pureL_encS, pureL_ints, pureL_strs, pure_spec]; done))) : p := h
noncomputable def keyE (s : SpecD) (t : ByteArray) : Int := if validE s ≠ 0 then validE s else if 4096 < t.size then 4 else 0
noncomputable def keyR (s : SpecD) (t : ByteArray) : List Int := if keyE s t = 0 then keyOf s t else []
theorem keyE_bad {s : SpecD} {t : ByteArray} (h : validE s ≠ 0) : keyE s t = validE s ∧ keyR s t = [] := by
  have e : keyE s t = validE s := if_pos h
  exact ⟨e, if_neg (by rw [e]; exact h)⟩
theorem keyE_long {s : SpecD} {t : ByteArray} (h : validE s = 0) (ht : 4096 < t.size) : keyE s t = 4 ∧ keyR s t = [] := by
  have e : keyE s t = 4 := by unfold keyE; rw [if_neg (by rw [h]; decide), if_pos ht]
  exact ⟨e, if_neg (by rw [e]; decide)⟩
theorem keyE_ok {s : SpecD} {t : ByteArray} (h : validE s = 0) (ht : ¬ 4096 < t.size) : keyE s t = 0 ∧ keyR s t = keyOf s t := by
  have e : keyE s t = 0 := by unfold keyE; rw [if_neg (by rw [h]; decide), if_neg ht]
  exact ⟨e, if_pos e⟩
theorem rKey_pure (s : SpecD) (t : ByteArray) (hs : Sane s) (ht : t.size ≤ 4294967296) : Pure Tryd.prog 17 [encSpec s, encS t] (.tup [ints (keyR s t), encI (keyE s t)]) [] := by
  refine Pure.intro (ts := [4, 5]) Tryd.func17 (by kernel_rfl) rfl rfl rfl (Nat.le_of_ble_eq_true rfl) ?_ ?_
  · simp [encB, encS, encSpec, PV.pure, pureL, pure_strs]
  refine sZ [1, 2] (fun P S K => XvBox S.nx (S.get 0) (fun r0 e0 => K ⟨[(1, S.get 1), (2, r0)], (Eff.hp e0 S.nx S.hp), (S.nx + e0.add.length), S.gh⟩)) fun K hK => ?_
  repeat' (first | (refine hK _ ?_; clear hK K) | ((first | refine xG_intro (fun hg => ?_) (fun hg => ?_) | refine fun (hg : (_ : Prop)) => ?_) <;> ((try simp only [BQ] at hg); try (exfalso; omega))) | refine And.intro ?_ ?_ | exact cl | refine one_take ?_ _ | refine one_drop ?_ _ | (refine st ?_; try simp only [encSpec]) | simp only [encSpec])
  all_goals
  refine sZ [1, 2, 6] (fun P S K => XvLoad P 35 (M S.hp S.nx) (S.get 2) (fun r0 _ => XvFnIV P (M S.hp S.nx) (.fn 15 []) [r0] (fun r1 e1 => K ⟨[(1, S.get 1), (2, S.get 2), (6, r1)], (Eff.hp e1 S.nx S.hp), (S.nx + e1.add.length), S.gh⟩))) fun K hK => ?_
  repeat' (first | (refine hK _ ?_; clear hK K) | ((first | refine xG_intro (fun hg => ?_) (fun hg => ?_) | refine fun (hg : (_ : Prop)) => ?_) <;> ((try simp only [BQ] at hg); try (exfalso; omega))) | refine And.intro ?_ ?_ | exact cl | refine one_take ?_ _ | refine one_drop ?_ _ | refine .inl ⟨_, _, rValid_pure s hs, ?_⟩ | refine ⟨_, _, rValid_pure s hs, ?_⟩ | (refine st ?_; try simp only [encSpec]) | simp only [encSpec])
  all_goals
  refine Tri.seq ?_
  refine sY [1, 2, 6, 10] (fun P S K => XvBinOV P .neq 30 (.const (.int .i64 0)) (S.get 6) (.atom (.int .i64 0)) (fun r1 _ => K ⟨[(1, S.get 1), (2, S.get 2), (6, S.get 6), (10, r1)], S.hp, S.nx, S.gh⟩)) ?_
  all_goals
  refine Tri.cond rfl (fun h10 => ?_) (fun h10 => ?_)
  ·try (cases h10; done)
   all_goals (try simp only [CQ] at h10)
   all_goals
   refine sY [4, 5] (fun P S K => K ⟨[(4, (.atom (.slice none 0 0))), (5, (S.get 6))], S.hp, S.nx, S.gh⟩) ?_
   refine Tri.asSl 4 1 rfl ?_
   all_goals
   refine Tri.ret ?_
   show ResOk _ _ _ _
   rw [(keyE_bad h10).1, (keyE_bad h10).2]
   exact ResOk.frz 5 lstW8 lpvW8
  ·try (cases h10; done)
   all_goals (try simp only [CQ] at h10)
   all_goals
   refine Tri.skip ?_
   refine Tri.seq ?_
   refine sZ [1, 2, 14] (fun P S K => XvLen P 9 (S.get 1) (fun r1 _ => XvBinOV P .gtr 3 (.const (.int .i64 4096)) r1 (.atom (.int .i64 4096)) (fun r2 _ => K ⟨[(1, S.get 1), (2, S.get 2), (14, r2)], S.hp, S.nx, S.gh⟩))) fun K hK => ?_
   repeat' (first | (refine hK _ ?_; clear hK K) | ((first | refine xG_intro (fun hg => ?_) (fun hg => ?_) | refine fun (hg : (_ : Prop)) => ?_) <;> ((try simp only [BQ] at hg); try (exfalso; omega))) | refine And.intro ?_ ?_ | exact cl | refine one_take ?_ _ | refine one_drop ?_ _ | (refine st ?_; try simp only [encSpec]) | simp only [encSpec])
   all_goals
   refine Tri.cond rfl (fun h14 => ?_) (fun h14 => ?_)
   ·try (cases h14; done)
    all_goals (try simp only [CQ] at h14)
    all_goals
    refine sY [4, 5] (fun P S K => K ⟨[(4, (.atom (.slice none 0 0))), (5, (.atom (.int .i64 4)))], S.hp, S.nx, S.gh⟩) ?_
    refine Tri.asSl 4 1 rfl ?_
    all_goals
    refine Tri.ret ?_
    show ResOk _ _ _ _
    rw [(keyE_long h10 (by omega)).1, (keyE_long h10 (by omega)).2]
    exact ResOk.frz 5 lstW8 lpvW8
   ·try (cases h14; done)
    all_goals (try simp only [CQ] at h14)
    all_goals
    refine Tri.skip ?_
    refine sZ [4, 5] (fun P S K => XvLoad P 35 (M S.hp S.nx) (S.get 2) (fun r0 _ => XvFnIV P (M S.hp S.nx) (.fn 47 []) [r0, (S.get 1)] (fun r2 e2 => K ⟨[(4, r2), (5, (.atom (.int .i64 0)))], (Eff.hp e2 S.nx S.hp), (S.nx + e2.add.length), S.gh⟩))) fun K hK => ?_
    repeat' (first | (refine hK _ ?_; clear hK K) | ((first | refine xG_intro (fun hg => ?_) (fun hg => ?_) | refine fun (hg : (_ : Prop)) => ?_) <;> ((try simp only [BQ] at hg); try (exfalso; omega))) | refine And.intro ?_ ?_ | exact cl | refine one_take ?_ _ | refine one_drop ?_ _ | refine .inl ⟨_, _, made_pure s t hs (by omega), ?_⟩ | refine ⟨_, _, made_pure s t hs (by omega), ?_⟩ | (refine st ?_; try simp only [encSpec]) | simp only [encSpec])
    all_goals
    refine Tri.ret ?_
    show ResOk _ _ _ _
    rw [(keyE_ok h10 (by omega)).1, (keyE_ok h10 (by omega)).2]
    exact ResOk.frz 5 lstW8 lpvW8
theorem keyL_len (s : SpecD) (t : ByteArray) : ∀ (l : List ByteArray) (f : Bool), (∀ x, x ∈ l → x.size ≤ t.size) → (keyL s f l).1.length ≤ l.length * (3 * t.size + 1) ∧ (keyL s f l).2.length ≤ l.length * t.size
  | [], f, _ => by simp [keyL]
  | w :: l, f, h => by
    have h1 := keyL_len s t l false (fun x hx => h x (List.mem_cons_of_mem _ hx))
    have h2 := wordS_len s w
    have h3 := h w (List.mem_cons_self ..)
    have h4 : (if (!f && s.words) = true then [(0 : Int)] else []).length ≤ 1 := by split <;> simp
    rw [keyL]
    have e1 : (l.length + 1) * (3 * t.size + 1) = l.length * (3 * t.size + 1) + (3 * t.size + 1) := Nat.succ_mul _ _
    have e2 : (l.length + 1) * t.size = l.length * t.size + t.size := Nat.succ_mul _ _
    simp only [List.length_append, List.length_cons]
    rw [e1, e2]
    omega
theorem keyR_len (s : SpecD) (t : ByteArray) : (keyR s t).length ≤ 120000000 := by
  unfold keyR
  split
  · rename_i h
    have ht : t.size ≤ 4096 := by
      apply Nat.le_of_not_lt
      intro hx
      by_cases hv : validE s = 0
      · rw [(keyE_long hv hx).1] at h; cases h
      · rw [(keyE_bad hv).1] at h; exact hv h
    have h1 := keyL_len s t (counted s t) true (fun x hx => words_size t x (counted_sub s t x hx))
    have h2 := counted_len s t
    have a : (counted s t).length * (3 * t.size + 1) ≤ 4097 * 12289 := Nat.mul_le_mul (by omega) (by omega)
    have b : (counted s t).length * t.size ≤ 4097 * 4096 := Nat.mul_le_mul (by omega) (by omega)
    unfold keyOf
    simp only [List.length_append, List.length_cons, List.length_nil]
    omega
  · simp
def posD (x : List Int) (ks : List (List Int)) : Nat → Nat
  | 0 => 0
  | k + 1 => if lexi x (ks.getD k []) < 0 then posD x ks k else k + 1
def insAt {α : Type} (l : List α) (k : Nat) (x : α) : List α := l.take k ++ x :: l.drop k
theorem insAt_map {α β : Type} (f : α → β) (l : List α) (k : Nat) (x : α) : (insAt l k x).map f = insAt (l.map f) k (f x) := by simp [insAt, List.map_take, List.map_drop]
theorem insAt_len {α : Type} (l : List α) (k : Nat) (x : α) : (insAt l k x).length = l.length + 1 := by simp [insAt]; omega
noncomputable def insS (s : SpecD) (out : List ByteArray) (x : ByteArray) : List ByteArray := insAt out (posD (keyR s x) (out.map (keyR s)) out.length) x
noncomputable def sortS (s : SpecD) (l : List ByteArray) : List ByteArray := l.foldl (insS s) []
noncomputable def sortE (s : SpecD) (l : List ByteArray) : Int := if validE s ≠ 0 then validE s else if 1000 < l.length then 4 else tI (∃ x, x ∈ l ∧ 4096 < x.size) 4 0
noncomputable def sortR (s : SpecD) (l : List ByteArray) : List ByteArray := if sortE s l = 0 then sortS s l else []
theorem sortE_bad {s : SpecD} {l : List ByteArray} (h : validE s ≠ 0) : sortE s l = validE s ∧ sortR s l = [] := by
  have e : sortE s l = validE s := if_pos h
  exact ⟨e, if_neg (by rw [e]; exact h)⟩
theorem sortE_many {s : SpecD} {l : List ByteArray} (h : validE s = 0) (hl : 1000 < l.length) : sortE s l = 4 ∧ sortR s l = [] := by
  have e : sortE s l = 4 := by unfold sortE; rw [if_neg (by rw [h]; decide), if_pos hl]
  exact ⟨e, if_neg (by rw [e]; decide)⟩
theorem sortE_long {s : SpecD} {l : List ByteArray} (h : validE s = 0) (hl : ¬ 1000 < l.length) (hx : ∃ x, x ∈ l ∧ 4096 < x.size) : sortE s l = 4 ∧ sortR s l = [] := by
  have e : sortE s l = 4 := by unfold sortE; rw [if_neg (by rw [h]; decide), if_neg hl, tI_yes hx]
  exact ⟨e, if_neg (by rw [e]; decide)⟩
theorem sortE_ok {s : SpecD} {l : List ByteArray} (h : validE s = 0) (hl : ¬ 1000 < l.length) (hx : ¬ ∃ x, x ∈ l ∧ 4096 < x.size) : sortE s l = 0 ∧ sortR s l = sortS s l := by
  have e : sortE s l = 0 := by unfold sortE; rw [if_neg (by rw [h]; decide), if_neg hl, tI_no hx]
  exact ⟨e, if_pos e⟩
structure SortI (s : SpecD) (l : List ByteArray) (i : Nat) (out : List ByteArray) : Prop where
  le : i ≤ l.length
  len : out.length = i
  core : sortS s l = (l.drop i).foldl (insS s) out
  small : ∀ j, j < i → (ls l j).size ≤ 4096
theorem SortI.start (s : SpecD) (l : List ByteArray) : SortI s l 0 [] := ⟨Nat.zero_le _, rfl, rfl, fun j hj => by omega⟩
theorem SortI.next {s : SpecD} {l : List ByteArray} {i : Nat} {out : List ByteArray} (h : SortI s l i out) (hi : i < l.length) (hs : (ls l i).size ≤ 4096) : SortI s l (i + 1) (insS s out (ls l i)) := by
  refine ⟨hi, by unfold insS; rw [insAt_len, h.len], by rw [h.core, drop_ls hi]; rfl, fun j hj => ?_⟩
  rcases Nat.lt_succ_iff_lt_or_eq.1 hj with hj | rfl
  · exact h.small j hj
  · exact hs
theorem SortI.done {s : SpecD} {l : List ByteArray} {i : Nat} {out : List ByteArray} (h : SortI s l i out) (hi : l.length ≤ i) : sortS s l = out ∧ ¬ ∃ x, x ∈ l ∧ 4096 < x.size := by
  refine ⟨by rw [h.core, List.drop_eq_nil_of_le hi]; rfl, ?_⟩
  rintro ⟨x, hx, hl⟩
  obtain ⟨j, hj, rfl⟩ := List.getElem_of_mem hx
  have := h.small j (by omega)
  have e : ls l j = l[j] := by simp [ls, List.getD_eq_getElem?_getD, hj]
  rw [e] at this
  omega
structure PosI (x : List Int) (ks : List (List Int)) (n k : Nat) : Prop where
  le : k ≤ n
  core : posD x ks n = posD x ks k
theorem PosI.down {x : List Int} {ks : List (List Int)} {n k : Nat} (h : PosI x ks n k) (hk : 0 < k) (hc : lexi x (ks.getD (k - 1) []) < 0) : PosI x ks n (k - 1) := by
  obtain ⟨k, rfl⟩ : ∃ j, k = j + 1 := ⟨k - 1, by omega⟩
  simp only [Nat.add_sub_cancel] at hc ⊢
  refine ⟨by have := h.le; omega, ?_⟩
  rw [h.core, posD, if_pos hc]
theorem PosI.stop {x : List Int} {ks : List (List Int)} {n k : Nat} (h : PosI x ks n k) (hc : k = 0 ∨ ¬ lexi x (ks.getD (k - 1) []) < 0) : posD x ks n = k := by
  rw [h.core]
  cases k with
  | zero => rfl
  | succ k =>
    simp only [Nat.add_sub_cancel] at hc
    rw [posD, if_neg (hc.resolve_left (by omega))]
theorem keys_len (s : SpecD) (out : List ByteArray) (j : Nat) : ((out.map (keyR s)).getD j []).length ≤ 9223372036854775807 := by
  by_cases h : j < out.length
  · have : (out.map (keyR s)).getD j [] = keyR s (out[j]) := by simp [List.getD_eq_getElem?_getD, h]
    rw [this]
    have := keyR_len s out[j]
    omega
  · have : (out.map (keyR s)).getD j [] = [] := by simp [List.getD_eq_getElem?_getD, h]
    rw [this]; simp
theorem ite_take {α : Type} (l : List α) (m : List PV) (k : Nat) (h : m.length = l.length) : (if k = l.length then m else m.take k) = m.take k := by
  split
  · rename_i e; rw [List.take_of_length_le (by omega)]
  · rfl
theorem ite_drop {α : Type} (l : List α) (m : List PV) (k : Nat) (h : m.length = l.length) : (if k = 0 ∧ l.length - k = l.length then m else (m.drop k).take (l.length - k)) = m.drop k := by
  have e : (m.drop k).take (l.length - k) = m.drop k := List.take_of_length_le (by simp; omega)
  rw [e]
  split
  · rename_i h; rw [h.1]; rfl
  · rfl
theorem rSort_pure (s : SpecD) (l : List ByteArray) (hs : Sane s) (hl : l.length ≤ 1000000000) (hlz : ∀ x, x ∈ l → x.size ≤ 4294967296) : Pure Tryd.prog 24 [encSpec s, strs l] (.tup [strs (sortR s l), encI (sortE s l)]) [] := by
  refine Pure.intro (ts := [4, 5]) Tryd.func24 (by kernel_rfl) rfl rfl rfl (Nat.le_of_ble_eq_true rfl) ?_ ?_
  · simp [encB, encS, encSpec, PV.pure, pureL, pure_strs]
  refine sZ [1, 2] (fun P S K => XvBox S.nx (S.get 0) (fun r0 e0 => K ⟨[(1, S.get 1), (2, r0)], (Eff.hp e0 S.nx S.hp), (S.nx + e0.add.length), S.gh⟩)) fun K hK => ?_
  repeat' (first | (refine hK _ ?_; clear hK K) | ((first | refine xG_intro (fun hg => ?_) (fun hg => ?_) | refine fun (hg : (_ : Prop)) => ?_) <;> ((try simp only [BQ] at hg); try (exfalso; omega))) | refine And.intro ?_ ?_ | exact cl | refine one_take ?_ _ | refine one_drop ?_ _ | (refine st ?_; try simp only [encSpec]) | simp only [encSpec])
  all_goals
  refine sZ [1, 2, 6] (fun P S K => XvLoad P 35 (M S.hp S.nx) (S.get 2) (fun r0 _ => XvFnIV P (M S.hp S.nx) (.fn 15 []) [r0] (fun r1 e1 => K ⟨[(1, S.get 1), (2, S.get 2), (6, r1)], (Eff.hp e1 S.nx S.hp), (S.nx + e1.add.length), S.gh⟩))) fun K hK => ?_
  repeat' (first | (refine hK _ ?_; clear hK K) | ((first | refine xG_intro (fun hg => ?_) (fun hg => ?_) | refine fun (hg : (_ : Prop)) => ?_) <;> ((try simp only [BQ] at hg); try (exfalso; omega))) | refine And.intro ?_ ?_ | exact cl | refine one_take ?_ _ | refine one_drop ?_ _ | refine .inl ⟨_, _, rValid_pure s hs, ?_⟩ | refine ⟨_, _, rValid_pure s hs, ?_⟩ | (refine st ?_; try simp only [encSpec]) | simp only [encSpec])
  all_goals
  refine Tri.seq ?_
  refine sY [1, 2, 6, 16] (fun P S K => XvBinOV P .neq 30 (.const (.int .i64 0)) (S.get 6) (.atom (.int .i64 0)) (fun r1 _ => K ⟨[(1, S.get 1), (2, S.get 2), (6, S.get 6), (16, r1)], S.hp, S.nx, S.gh⟩)) ?_
  all_goals
  refine Tri.cond rfl (fun h16 => ?_) (fun h16 => ?_)
  ·try (cases h16; done)
   all_goals (try simp only [CQ] at h16)
   all_goals
   refine sY [4, 5] (fun P S K => K ⟨[(4, (.atom (.slice none 0 0))), (5, (S.get 6))], S.hp, S.nx, S.gh⟩) ?_
   refine Tri.asSl 4 1 rfl ?_
   all_goals
   refine Tri.ret ?_
   show ResOk _ _ _ _
   rw [(sortE_bad h16).1, (sortE_bad h16).2]
   exact ResOk.frz 5 lstW8 lpvW8
  ·try (cases h16; done)
   all_goals (try simp only [CQ] at h16)
   all_goals
   refine Tri.skip ?_
   refine Tri.seq ?_
   refine sZ [1, 2, 20] (fun P S K => XvLen P 25 (S.get 1) (fun r1 _ => XvBinOV P .gtr 3 (.const (.int .i64 1000)) r1 (.atom (.int .i64 1000)) (fun r2 _ => K ⟨[(1, S.get 1), (2, S.get 2), (20, r2)], S.hp, S.nx, S.gh⟩))) fun K hK => ?_
   repeat' (first | (refine hK _ ?_; clear hK K) | ((first | refine xG_intro (fun hg => ?_) (fun hg => ?_) | refine fun (hg : (_ : Prop)) => ?_) <;> ((try simp only [BQ] at hg); try (exfalso; omega))) | refine And.intro ?_ ?_ | exact cl | refine one_take ?_ _ | refine one_drop ?_ _ | (refine st ?_; try simp only [encSpec]) | simp only [encSpec])
   all_goals
   refine Tri.cond rfl (fun h20 => ?_) (fun h20 => ?_)
   ·try (cases h20; done)
    all_goals (try simp only [CQ] at h20)
    all_goals
    refine sY [4, 5] (fun P S K => K ⟨[(4, (.atom (.slice none 0 0))), (5, (.atom (.int .i64 4)))], S.hp, S.nx, S.gh⟩) ?_
    refine Tri.asSl 4 1 rfl ?_
    all_goals
    refine Tri.ret ?_
    show ResOk _ _ _ _
    rw [(sortE_many h16 (by omega)).1, (sortE_many h16 (by omega)).2]
    exact ResOk.frz 5 lstW8 lpvW8
   ·try (cases h20; done)
    all_goals (try simp only [CQ] at h20)
    all_goals
    refine Tri.skip ?_
    refine sY [1, 2, 7] (fun P S K => K ⟨[(1, S.get 1), (2, S.get 2), (7, (.atom (.slice none 0 0)))], S.hp, S.nx, S.gh⟩) ?_
    refine Tri.born 7 1 rfl ?_
    all_goals
    refine sY [1, 2, 7, 8] (fun P S K => K ⟨[(1, S.get 1), (2, S.get 2), (7, S.get 7), (8, (.atom (.slice none 0 0)))], S.hp, S.nx, S.gh⟩) ?_
    refine Tri.born 8 1 rfl ?_
    all_goals
    refine Tri.seq ?_
    refine sY [1, 2, 7, 8, 9] (fun P S K => K ⟨[(1, S.get 1), (2, S.get 2), (7, S.get 7), (8, S.get 8), (9, (.atom (.int .i64 0)))], S.hp, S.nx, S.gh⟩) ?_
    all_goals
    refine Tri.block ?_
    refine Tri.loop (α := (out : List ByteArray) ×' (i : Nat) ×' (SortI s l i out)) (fun z => (fun (out : List ByteArray) (i : Nat) => (⟨[(1, strs l), (2, .ptr 0 4 0 0), (7, .ob 1 1 0 out.length), (8, .ob 2 1 0 out.length), (9, encI i)], [(0, some ⟨4, [encSpec s]⟩), (1, some ⟨1, out.map encS⟩), (2, some ⟨1, (out.map (keyR s)).map ints⟩)], 3, []⟩ : St)) z.1 z.2.1) (fun z => (fun (out : List ByteArray) (i : Nat) => l.length - i) z.1 z.2.1) ⟨[], 0, SortI.start s l⟩ [0, 1, 2] ?_ ?_
    ·exact leqW8
    ·rintro ⟨out, i, hI⟩
     refine Tri.seq ?_
     refine sZ [1, 2, 7, 8, 9, 24] (fun P S K => XvLen P 25 (S.get 1) (fun r2 _ => XvBinOV P .lss 3 (.tmp 23) (S.get 9) r2 (fun r3 _ => K ⟨[(1, S.get 1), (2, S.get 2), (7, S.get 7), (8, S.get 8), (9, S.get 9), (24, r3)], S.hp, S.nx, S.gh⟩))) fun K hK => ?_
     repeat' (first | (refine hK _ ?_; clear hK K) | ((first | refine xG_intro (fun hg => ?_) (fun hg => ?_) | refine fun (hg : (_ : Prop)) => ?_) <;> ((try simp only [BQ] at hg); try (exfalso; omega))) | refine And.intro ?_ ?_ | exact cl | refine one_take ?_ _ | refine one_drop ?_ _ | (refine st ?_; try simp only [encSpec]) | simp only [encSpec])
     all_goals
     refine Tri.cond rfl (fun h24 => ?_) (fun h24 => ?_)
     ·try (cases h24; done)
      all_goals (try simp only [CQ] at h24)
      all_goals
      refine Tri.skip ?_
      refine Tri.seq ?_
      refine Tri.block ?_
      have hil : i < l.length := by omega
      refine sD 11 [1, 2, 7, 8, 9, 10, 11] (fun P GD S K => XvLoad P 35 (M S.hp S.nx) (S.get 2) (fun r0 e0 => XvIndexAddr P 25 (S.get 1) (S.get 9) (fun r3 e3 => XvLoad P 9 (M S.hp S.nx) r3 (fun r4 e4 => XvFnV P (M S.hp S.nx) (.fn 17 []) [r0, r4] (fun r5 e5 => XvExtract r5 0 (fun r7 e7 => XvExtract r5 1 (fun r8 e8 => (trOk S.nx GD [⟨S.nx, 0, e0.rd, [], []⟩, ⟨S.nx, 0, [], [], []⟩, ⟨S.nx, 0, [], [], []⟩, ⟨S.nx, 0, e3.rd, [], []⟩, ⟨S.nx, 0, e4.rd, [], []⟩, (Eff.tr e5 S.nx), ⟨(S.nx + e5.add.length), 0, [], [], []⟩, ⟨(S.nx + e5.add.length), 0, e7.rd, [], []⟩, ⟨(S.nx + e5.add.length), 0, e8.rd, [], []⟩, ⟨(S.nx + e5.add.length), 0, [], [], []⟩, ⟨(S.nx + e5.add.length), 0, [], [], []⟩] = true ∧ K ⟨[(1, S.get 1), (2, S.get 2), (7, S.get 7), (8, S.get 8), (9, S.get 9), (10, r7), (11, r8)], (Eff.hp e5 S.nx S.hp), (S.nx + e5.add.length), S.gh⟩)))))))) fun K hK => ?_
      repeat' (first | (refine hK _ ?_; clear hK K) | (refine (?_ : trOk _ _ _ = true); kernel_rfl) | ((first | refine xG_intro (fun hg => ?_) (fun hg => ?_) | refine fun (hg : (_ : Prop)) => ?_) <;> ((try simp only [BQ] at hg); try (exfalso; omega))) | refine And.intro ?_ ?_ | exact cl | refine one_take ?_ _ | refine one_drop ?_ _ | refine .inl ⟨_, _, rKey_pure s (ls l i) hs (hlz _ (ls_mem hil)), ?_⟩ | refine ⟨_, _, rKey_pure s (ls l i) hs (hlz _ (ls_mem hil)), ?_⟩ | (refine st ?_; try simp only [encSpec, getD_encS hil]) | simp only [encSpec, getD_encS hil])
      all_goals
      refine Tri.seq ?_
      refine sY [1, 2, 7, 8, 9, 10, 11, 37] (fun P S K => XvBinOV P .neq 30 (.const (.int .i64 0)) (S.get 11) (.atom (.int .i64 0)) (fun r1 _ => K ⟨[(1, S.get 1), (2, S.get 2), (7, S.get 7), (8, S.get 8), (9, S.get 9), (10, S.get 10), (11, S.get 11), (37, r1)], S.hp, S.nx, S.gh⟩)) ?_
      all_goals
      refine Tri.cond rfl (fun h37 => ?_) (fun h37 => ?_)
      ·try (cases h37; done)
       all_goals (try simp only [CQ] at h37)
       all_goals
       refine sY [4, 5] (fun P S K => K ⟨[(4, (.atom (.slice none 0 0))), (5, (S.get 11))], S.hp, S.nx, S.gh⟩) ?_
       refine Tri.asSl 4 1 rfl ?_
       all_goals
       refine Tri.ret ?_
       show ResOk _ _ _ _
       have hx : 4096 < (ls l i).size := by
         apply Nat.lt_of_not_le
         intro hx
         exact h37 (keyE_ok h16 (by omega)).1
       have hx2 : ∃ x, x ∈ l ∧ 4096 < x.size := ⟨_, ls_mem hil, hx⟩
       rw [(sortE_long h16 (by omega) hx2).1, (sortE_long h16 (by omega) hx2).2, (keyE_long h16 hx).1]
       exact ResOk.frz 5 lstW8 lpvW8
      ·try (cases h37; done)
       all_goals (try simp only [CQ] at h37)
       all_goals
       refine Tri.skip ?_
       have hx : (ls l i).size ≤ 4096 := by
         apply Nat.le_of_not_lt
         intro hx
         rw [(keyE_long h16 hx).1] at h37
         cases h37
       have hlen := hI.len
       refine sZ [1, 2, 7, 8, 9, 10, 12] (fun P S K => XvLen P 25 (S.get 7) (fun r1 _ => K ⟨[(1, S.get 1), (2, S.get 2), (7, S.get 7), (8, S.get 8), (9, S.get 9), (10, S.get 10), (12, r1)], S.hp, S.nx, S.gh⟩)) fun K hK => ?_
       repeat' (first | (refine hK _ ?_; clear hK K) | ((first | refine xG_intro (fun hg => ?_) (fun hg => ?_) | refine fun (hg : (_ : Prop)) => ?_) <;> ((try simp only [BQ] at hg); try (exfalso; omega))) | refine And.intro ?_ ?_ | exact cl | refine one_take ?_ _ | refine one_drop ?_ _ | (refine st ?_; try simp only [encSpec]) | simp only [encSpec])
       all_goals
       refine Tri.seq ?_
       refine Tri.block ?_
       refine Tri.loop (α := (k : Nat) ×' (PosI (keyR s (ls l i)) (out.map (keyR s)) out.length k)) (fun z => (fun (k : Nat) => (⟨[(1, strs l), (2, .ptr 0 4 0 0), (7, .ob 1 1 0 out.length), (8, .ob 2 1 0 out.length), (9, encI i), (10, ints (keyR s (ls l i))), (12, encI k)], [(0, some ⟨4, [encSpec s]⟩), (1, some ⟨1, out.map encS⟩), (2, some ⟨1, (out.map (keyR s)).map ints⟩)], 3, []⟩ : St)) z.1) (fun z => (fun (k : Nat) => k) z.1) ⟨out.length, ⟨Nat.le_refl _, rfl⟩⟩ [0, 1, 2] ?_ ?_
       ·exact leqW8
       ·rintro ⟨k, hP⟩
        have hkl := hP.le
        refine Tri.seq ?_
        refine sZ [1, 2, 7, 8, 9, 10, 12, 52] (fun P S K => XvBinOV P .gtr 3 (.const (.int .i64 0)) (S.get 12) (.atom (.int .i64 0)) (fun r1 _ => Xgq r1 true (fun k => k (S.get 10)) (fun g3 r3 => Xgq g3 true (fun k => k (S.get 8)) (fun g4 r4 => Xgq g4 true (fun k => k (S.get 12)) (fun g5 r5 => Xgq g5 true (fun k => XvBinOV P .sub 3 (.const (.int .i64 1)) r5 (.atom (.int .i64 1)) (fun r6 _ => k r6)) (fun g6 r6 => Xgq g6 true (fun k => XvIndexAddr P 84 r4 r6 (fun r7 _ => k r7)) (fun g7 r7 => Xgq g7 true (fun k => XvLoad P 22 (M S.hp S.nx) r7 (fun r8 _ => k r8)) (fun g8 r8 => Xge g8 true (fun k => XvFnIV P (M S.hp S.nx) (.fn 49 []) [r3, r8] k) (fun g9 r9 e9 => Xgq g9 true (fun k => XvBinOV P .lss 3 (.const (.int .i64 0)) r9 (.atom (.int .i64 0)) (fun r10 _ => k r10)) (fun g10 r10 => XvPick g10 r10 (.atom (.bool false)) (fun r11 _ => K ⟨[(1, S.get 1), (2, S.get 2), (7, S.get 7), (8, S.get 8), (9, S.get 9), (10, S.get 10), (12, S.get 12), (52, r11)], (Eff.hp e9 S.nx S.hp), (S.nx + e9.add.length), S.gh⟩))))))))))) fun K hK => ?_
        repeat' (first | (refine hK _ ?_; clear hK K) | ((first | refine xG_intro (fun hg => ?_) (fun hg => ?_) | refine fun (hg : (_ : Prop)) => ?_) <;> ((try simp only [BQ] at hg); try (exfalso; omega))) | refine And.intro ?_ ?_ | exact cl | refine one_take ?_ _ | refine one_drop ?_ _ | refine .inl ⟨_, _, Lexical_pure _ _ (by have := keyR_len s (ls l i); omega) (keys_len s out _), ?_⟩ | refine ⟨_, _, Lexical_pure _ _ (by have := keyR_len s (ls l i); omega) (keys_len s out _), ?_⟩ | (refine st ?_; try simp only [encSpec, wrap_id (x := ((k : Int) - 1)) (by omega) (by omega)]; try simp only [encSpec, toNat_pred (show 0 < k by omega), getD_ints (show k - 1 < (out.map (keyR s)).length by rw [List.length_map]; omega)]) | simp only [encSpec, wrap_id (x := ((k : Int) - 1)) (by omega) (by omega)] | simp only [encSpec, toNat_pred (show 0 < k by omega), getD_ints (show k - 1 < (out.map (keyR s)).length by rw [List.length_map]; omega)])
        all_goals try simp (disch := omega) only [wrap_id, wrap8_id]
        all_goals
        refine Tri.cond rfl (fun h52 => ?_) (fun h52 => ?_)
        ·try (cases h52; done)
         all_goals (try simp only [CQ] at h52)
         all_goals
         refine Tri.skip ?_
         refine Tri.block ?_
         refine rY [1, 2, 7, 8, 9, 10, 12] (fun P S K => XvBinOV P .sub 3 (.const (.int .i64 1)) (S.get 12) (.atom (.int .i64 1)) (fun r1 _ => K ⟨[(1, S.get 1), (2, S.get 2), (7, S.get 7), (8, S.get 8), (9, S.get 9), (10, S.get 10), (12, r1)], S.hp, S.nx, S.gh⟩)) ?_
         all_goals try simp (disch := omega) only [wrap_id, wrap8_id]
         all_goals
         refine ⟨⟨k - 1, hP.down (by omega) h52⟩, [0, 1, 2], by dsimp only; omega, ?_⟩
         have ek : ((k - 1 : Nat) : Int) = (k : Int) - 1 := by omega
         dsimp only
         rw [ek]
         exact leqW8
        ·try (cases h52; done)
         all_goals (try simp only [CQ] at h52)
         all_goals
         refine Tri.exit ?_
         refine sD 16 [1, 2, 7, 8, 9, 10, 12] (fun P GD S K => XvBuildS P 25 0 S.nx [] (fun r0 e0 => XvSliceV P 25 (S.get 7) none (some (S.get 12)) (fun r3 e3 => (25 = 25 ∧ XvAppend P 25 (M (Eff.hp e0 S.nx S.hp) (S.nx + e0.add.length)) r0 r3 (fun r4 e4 => XvIndexAddr P 25 (S.get 1) (S.get 9) (fun r7 e7 => XvLoad P 9 (M (Eff.hp e4 (S.nx + e0.add.length) (Eff.hp e0 S.nx S.hp)) ((S.nx + e0.add.length) + e4.add.length)) r7 (fun r8 e8 => XvBuildS P 25 1 ((S.nx + e0.add.length) + e4.add.length) [(0, r8)] (fun r9 e9 => (25 = 25 ∧ XvAppend P 25 (M (Eff.hp e9 ((S.nx + e0.add.length) + e4.add.length) (Eff.hp e4 (S.nx + e0.add.length) (Eff.hp e0 S.nx S.hp))) (((S.nx + e0.add.length) + e4.add.length) + e9.add.length)) r4 r9 (fun r10 e10 => XvSliceV P 25 (S.get 7) (some (S.get 12)) none (fun r13 e13 => (25 = 25 ∧ XvAppend P 25 (M (Eff.hp e10 (((S.nx + e0.add.length) + e4.add.length) + e9.add.length) (Eff.hp e9 ((S.nx + e0.add.length) + e4.add.length) (Eff.hp e4 (S.nx + e0.add.length) (Eff.hp e0 S.nx S.hp)))) ((((S.nx + e0.add.length) + e4.add.length) + e9.add.length) + e10.add.length)) r10 r13 (fun r14 e14 => (trOk S.nx GD [(Eff.tr e0 S.nx), ⟨(S.nx + e0.add.length), 0, [], [], []⟩, ⟨(S.nx + e0.add.length), 0, [], [], []⟩, ⟨(S.nx + e0.add.length), 0, e3.rd, [], []⟩, (Eff.tr e4 (S.nx + e0.add.length)), ⟨((S.nx + e0.add.length) + e4.add.length), 0, [], [], []⟩, ⟨((S.nx + e0.add.length) + e4.add.length), 0, [], [], []⟩, ⟨((S.nx + e0.add.length) + e4.add.length), 0, e7.rd, [], []⟩, ⟨((S.nx + e0.add.length) + e4.add.length), 0, e8.rd, [], []⟩, (Eff.tr e9 ((S.nx + e0.add.length) + e4.add.length)), (Eff.tr e10 (((S.nx + e0.add.length) + e4.add.length) + e9.add.length)), ⟨((((S.nx + e0.add.length) + e4.add.length) + e9.add.length) + e10.add.length), 0, [], [], []⟩, ⟨((((S.nx + e0.add.length) + e4.add.length) + e9.add.length) + e10.add.length), 0, [], [], []⟩, ⟨((((S.nx + e0.add.length) + e4.add.length) + e9.add.length) + e10.add.length), 0, e13.rd, [], []⟩, (Eff.tr e14 ((((S.nx + e0.add.length) + e4.add.length) + e9.add.length) + e10.add.length)), ⟨(((((S.nx + e0.add.length) + e4.add.length) + e9.add.length) + e10.add.length) + e14.add.length), 0, [], [], []⟩] = true ∧ K ⟨[(1, S.get 1), (2, S.get 2), (7, r14), (8, S.get 8), (9, S.get 9), (10, S.get 10), (12, S.get 12)], (Eff.hp e14 ((((S.nx + e0.add.length) + e4.add.length) + e9.add.length) + e10.add.length) (Eff.hp e10 (((S.nx + e0.add.length) + e4.add.length) + e9.add.length) (Eff.hp e9 ((S.nx + e0.add.length) + e4.add.length) (Eff.hp e4 (S.nx + e0.add.length) (Eff.hp e0 S.nx S.hp))))), (((((S.nx + e0.add.length) + e4.add.length) + e9.add.length) + e10.add.length) + e14.add.length), S.gh⟩)))))))))))))) fun K hK => ?_
         repeat' (first | (refine hK _ ?_; clear hK K) | (refine (?_ : trOk _ _ _ = true); kernel_rfl) | ((first | refine xG_intro (fun hg => ?_) (fun hg => ?_) | refine fun (hg : (_ : Prop)) => ?_) <;> ((try simp only [BQ] at hg); try (exfalso; omega))) | refine And.intro ?_ ?_ | exact cl | refine one_take ?_ _ | refine one_drop ?_ _ | (refine st ?_; try simp only [encSpec, getD_encS hil, ite_take out (out.map encS) k (by simp), ite_drop out (out.map encS) k (by simp)]) | simp only [encSpec, getD_encS hil, ite_take out (out.map encS) k (by simp), ite_drop out (out.map encS) k (by simp)])
         all_goals
         refine rD 13 [1, 2, 7, 8, 9] (fun P GD S K => XvBuildS P 84 0 S.nx [] (fun r0 e0 => XvSliceV P 84 (S.get 8) none (some (S.get 12)) (fun r3 e3 => (84 = 84 ∧ XvAppend P 84 (M (Eff.hp e0 S.nx S.hp) (S.nx + e0.add.length)) r0 r3 (fun r4 e4 => XvBuildS P 84 1 ((S.nx + e0.add.length) + e4.add.length) [(0, (S.get 10))] (fun r6 e6 => (84 = 84 ∧ XvAppend P 84 (M (Eff.hp e6 ((S.nx + e0.add.length) + e4.add.length) (Eff.hp e4 (S.nx + e0.add.length) (Eff.hp e0 S.nx S.hp))) (((S.nx + e0.add.length) + e4.add.length) + e6.add.length)) r4 r6 (fun r7 e7 => XvSliceV P 84 (S.get 8) (some (S.get 12)) none (fun r10 e10 => (84 = 84 ∧ XvAppend P 84 (M (Eff.hp e7 (((S.nx + e0.add.length) + e4.add.length) + e6.add.length) (Eff.hp e6 ((S.nx + e0.add.length) + e4.add.length) (Eff.hp e4 (S.nx + e0.add.length) (Eff.hp e0 S.nx S.hp)))) ((((S.nx + e0.add.length) + e4.add.length) + e6.add.length) + e7.add.length)) r7 r10 (fun r11 e11 => (trOk S.nx GD [(Eff.tr e0 S.nx), ⟨(S.nx + e0.add.length), 0, [], [], []⟩, ⟨(S.nx + e0.add.length), 0, [], [], []⟩, ⟨(S.nx + e0.add.length), 0, e3.rd, [], []⟩, (Eff.tr e4 (S.nx + e0.add.length)), ⟨((S.nx + e0.add.length) + e4.add.length), 0, [], [], []⟩, (Eff.tr e6 ((S.nx + e0.add.length) + e4.add.length)), (Eff.tr e7 (((S.nx + e0.add.length) + e4.add.length) + e6.add.length)), ⟨((((S.nx + e0.add.length) + e4.add.length) + e6.add.length) + e7.add.length), 0, [], [], []⟩, ⟨((((S.nx + e0.add.length) + e4.add.length) + e6.add.length) + e7.add.length), 0, [], [], []⟩, ⟨((((S.nx + e0.add.length) + e4.add.length) + e6.add.length) + e7.add.length), 0, e10.rd, [], []⟩, (Eff.tr e11 ((((S.nx + e0.add.length) + e4.add.length) + e6.add.length) + e7.add.length)), ⟨(((((S.nx + e0.add.length) + e4.add.length) + e6.add.length) + e7.add.length) + e11.add.length), 0, [], [], []⟩] = true ∧ K ⟨[(1, S.get 1), (2, S.get 2), (7, S.get 7), (8, r11), (9, S.get 9)], (Eff.hp e11 ((((S.nx + e0.add.length) + e4.add.length) + e6.add.length) + e7.add.length) (Eff.hp e7 (((S.nx + e0.add.length) + e4.add.length) + e6.add.length) (Eff.hp e6 ((S.nx + e0.add.length) + e4.add.length) (Eff.hp e4 (S.nx + e0.add.length) (Eff.hp e0 S.nx S.hp))))), (((((S.nx + e0.add.length) + e4.add.length) + e6.add.length) + e7.add.length) + e11.add.length), S.gh⟩)))))))))))) fun K hK => ?_
         repeat' (first | (refine hK _ ?_; clear hK K) | (refine (?_ : trOk _ _ _ = true); kernel_rfl) | ((first | refine xG_intro (fun hg => ?_) (fun hg => ?_) | refine fun (hg : (_ : Prop)) => ?_) <;> ((try simp only [BQ] at hg); try (exfalso; omega))) | refine And.intro ?_ ?_ | exact cl | refine one_take ?_ _ | refine one_drop ?_ _ | (refine st ?_; try simp only [encSpec, ite_take out ((out.map (keyR s)).map ints) k (by simp), ite_drop out ((out.map (keyR s)).map ints) k (by simp)]) | simp only [encSpec, ite_take out ((out.map (keyR s)).map ints) k (by simp), ite_drop out ((out.map (keyR s)).map ints) k (by simp)])
         all_goals
         refine rY [1, 2, 7, 8, 9] (fun P S K => XvBinOV P .add 3 (.const (.int .i64 1)) (S.get 9) (.atom (.int .i64 1)) (fun r1 _ => K ⟨[(1, S.get 1), (2, S.get 2), (7, S.get 7), (8, S.get 8), (9, r1)], S.hp, S.nx, S.gh⟩)) ?_
         all_goals try simp (disch := omega) only [wrap_id, wrap8_id]
         all_goals
         have hpos := hP.stop (by first | exact .inl (by omega) | exact .inr h52)
         have e : insS s out (ls l i) = out.take k ++ ls l i :: out.drop k := by unfold insS; rw [hpos]; rfl
         refine ⟨⟨insS s out (ls l i), i + 1, hI.next hil hx⟩, [0, 7, 12], by dsimp only; omega, ?_⟩
         dsimp only
         rw [e]
         first
           | (have hdk : out.drop k = [] := List.drop_eq_nil_of_le (by omega)
              have hk1 : 0 < k := by omega
              rw [hdk]
              exact leqW8)
           | (have hk0 : k = 0 := by omega
              subst hk0
              exact leqW8)
           | exact leqW8
     ·try (cases h24; done)
      all_goals (try simp only [CQ] at h24)
      all_goals
      refine Tri.exit ?_
      have hfin := hI.done (by omega)
      refine sY [4, 5] (fun P S K => K ⟨[(4, (S.get 7)), (5, (.atom (.int .i64 0)))], S.hp, S.nx, S.gh⟩) ?_
      all_goals
      refine Tri.ret ?_
      show ResOk _ _ _ _
      rw [(sortE_ok h16 (by omega) hfin.2).1, (sortE_ok h16 (by omega) hfin.2).2, hfin.1]
      exact ResOk.frz 5 lstW8 lpvW8
end Go.Proofs.YtfnkciboencifaaDoor
