/-
  Walks: the reference model of collations: keys.
-/
import Derived.Test.YtfnkciboencifaaDoorKW1
import Derived.Test.YtfnkciboencifaaDoorKW6
import Derived.Test.YtfnkciboencifaaDoorKExam
set_option linter.all false
namespace Go.Proofs.YtfnkciboencifaaDoor
open Go Go.RowKit
set_option linter.unusedSimpArgs false
set_option linter.unusedVariables false
set_option maxRecDepth 20000
set_option maxHeartbeats 2000000
theorem leqW7 {p : Prop} (h : p := by (refine ⟨4, ?_, ?_, rfl, by simp, rfl, fun _ h _ => absurd h (Nat.not_lt_zero _)⟩ <;> (simp only [List.forall_mem_cons]; repeat' (first | refine And.intro ?_ ?_ | (intro p hp; exact absurd hp List.not_mem_nil) | rfl | exact sp (pure_spec _) | exact (sealed_pure _ _ _ (pure_ints _)).trans (ren_ints _ _).symm | exact (sealed_pure _ _ _ (pure_strs _)).trans (ren_strs _ _).symm | (intro o ho; cases ho; refine ⟨by decide, ?_⟩; first | (refine LeqS.row rfl ?_ ?_; (next => (first | rfl | (simp only [List.map_append, List.map_cons, List.map_nil, List.append_nil, List.nil_append, List.append_assoc, List.cons_append, encI, encS, ints, strs]; done) | (simp [encI, encS, ints, strs]; done))); (next => (first | rfl | exact pureL_encI _ | exact pureL_encS _ | exact pureL_ints _ | exact pureL_strs _ | (simp [pureL_append, pureL_encI, pureL_encS, pureL_ints, pureL_strs, pureL, PV.pure, pure_ints, pure_strs, pure_spec]; done))); done) | refine ⟨_, rfl, rfl, ?_⟩) | (simp [St.born, St.known, retV, St.get, St.obj, lk, sealed, PV.ren, renL, rmap, AO.ren, ints, strs, encI, encS, map_sealed_encI, map_sealed_encS, map_sealed_ints, map_sealed_strs, map_ren_encI, map_ren_encS, map_ren_ints, map_ren_strs, renL_encI, renL_encS, renL_ints, renL_strs, ren_spec] <;> omega))))) : p := h
theorem lpuW7 {p : Prop} (h : p := by (first | rfl | exact pureL_encI _ | exact pureL_encS _ | exact pureL_ints _ | exact pureL_strs _ | (simp [pureL_append, pureL_encI, pureL_encS, pureL_ints, pureL_strs, pureL, PV.pure, pure_ints, pure_strs, pure_spec]; done))) : p := h
theorem lelW7 {p : Prop} (h : p := by (first | rfl | (simp only [List.map_append, List.map_cons, List.map_nil, List.append_nil, List.nil_append, List.append_assoc, List.cons_append, encI, encS, ints, strs]; done) | (simp [encI, encS, ints, strs]; done))) : p := h
noncomputable def keyL (s : SpecD) : Bool → List ByteArray → List Int × List Int
  | _, [] => ([], [])
  | fst, w :: l => ((if !fst && s.words then [0] else []) ++ (wordS s w).1 ++ (keyL s false l).1, (wordS s w).2 ++ (keyL s false l).2)
noncomputable def keyOf (s : SpecD) (t : ByteArray) : List Int := (keyL s true (counted s t)).1 ++ [-1] ++ (keyL s true (counted s t)).2
theorem wordF_len (s : SpecD) : ∀ (f : Nat) (l : List UInt8), (wordF s f l).1.length ≤ 3 * l.length ∧ (wordF s f l).2.length ≤ l.length
  | 0, l => by simp [wordF]
  | f + 1, [] => by simp [wordF]
  | f + 1, c :: t => by
    rw [wordF]
    split
    · rename_i h
      have hd : isDig c = true := by simp at h; exact h.2
      have h1 := wordF_len s f ((c :: t).dropWhile isDig)
      have h2 : ((c :: t).takeWhile isDig).length + ((c :: t).dropWhile isDig).length = (c :: t).length := by
        rw [← List.length_append, List.takeWhile_append_dropWhile]
      have h3 : (numOf ((c :: t).takeWhile isDig)).length ≤ ((c :: t).takeWhile isDig).length := by unfold numOf; rw [List.length_map]; exact dropWhile_le _ _
      have h4 : 1 ≤ ((c :: t).takeWhile isDig).length := by rw [List.takeWhile_cons, hd]; simp
      simp only [List.length_cons, List.length_append] at *
      omega
    · have h1 := wordF_len s f t
      split
      · simp only [List.length_cons]; omega
      · simp only [List.length_cons]; omega
theorem wordS_len (s : SpecD) (w : ByteArray) : (wordS s w).1.length ≤ 3 * w.size ∧ (wordS s w).2.length ≤ w.size := by
  have := wordF_len s w.size (bl w)
  rw [bl_len] at this
  exact this
theorem counted_sub (s : SpecD) (t : ByteArray) : ∀ x, x ∈ counted s t → x ∈ wordsS t := by
  unfold counted
  have : ∀ l : List ByteArray, ∀ x, x ∈ dropSkip s.skip l → x ∈ l := by
    intro l
    induction l with
    | nil => intro x hx; exact hx
    | cons a l ih =>
      intro x hx
      cases l with
      | nil => exact hx
      | cons b l =>
        rw [dropSkip] at hx
        split at hx
        · exact List.mem_cons_of_mem _ (ih x hx)
        · exact hx
  exact this _
theorem counted_len (s : SpecD) (t : ByteArray) : (counted s t).length ≤ t.size + 1 := by
  refine Nat.le_trans ?_ (words_len t)
  unfold counted
  have : ∀ l : List ByteArray, (dropSkip s.skip l).length ≤ l.length := by
    intro l
    induction l with
    | nil => exact Nat.le_refl _
    | cons a l ih =>
      cases l with
      | nil => exact Nat.le_refl _
      | cons b l =>
        rw [dropSkip]
        split
        · simp only [List.length_cons] at *; omega
        · exact Nat.le_refl _
  exact this _
theorem counted_size {s : SpecD} {t : ByteArray} {k : Nat} (h : k < (counted s t).length) : (ls (counted s t) k).size ≤ t.size := words_size t _ (counted_sub s t _ (ls_mem h))
structure KeyI (s : SpecD) (t : ByteArray) (ws : List ByteArray) (k : Nat) (a b : List Int) : Prop where
  le : k ≤ ws.length
  la : a.length ≤ k * (3 * t.size + 1)
  lb : b.length ≤ k * t.size
  core : keyL s true ws = (a ++ (keyL s (decide (k = 0)) (ws.drop k)).1, b ++ (keyL s (decide (k = 0)) (ws.drop k)).2)
theorem KeyI.start (s : SpecD) (t : ByteArray) (ws : List ByteArray) : KeyI s t ws 0 [] [] := ⟨Nat.zero_le _, by simp, by simp, by simp⟩
theorem KeyI.done {s : SpecD} {t : ByteArray} {ws : List ByteArray} {k : Nat} {a b : List Int} (h : KeyI s t ws k a b) (hk : ws.length ≤ k) : keyL s true ws = (a, b) := by
  have := h.core
  rw [List.drop_eq_nil_of_le hk, keyL] at this
  simpa using this
theorem KeyI.next {s : SpecD} {t : ByteArray} {ws : List ByteArray} {k : Nat} {a b z : List Int} (h : KeyI s t ws k a b) (hk : k < ws.length) (hs : (ls ws k).size ≤ t.size) (hz : z = if 0 < k ∧ s.words = true then [0] else []) :
    KeyI s t ws (k + 1) (a ++ z ++ (wordS s (ls ws k)).1) (b ++ (wordS s (ls ws k)).2) := by
  have hl := wordS_len s (ls ws k)
  have hzl : z.length ≤ 1 := by rw [hz]; split <;> simp
  refine ⟨hk, ?_, ?_, ?_⟩
  · have := h.la
    rw [Nat.succ_mul]
    simp only [List.length_append]; omega
  · have := h.lb
    rw [Nat.succ_mul]
    simp only [List.length_append]; omega
  · rw [h.core, drop_ls hk, keyL]
    have e : (if (!decide (k = 0) && s.words) = true then [(0 : Int)] else []) = z := by
      rw [hz]
      cases hw : s.words <;> by_cases h0 : k = 0 <;> simp [h0, Nat.pos_iff_ne_zero]
    rw [e]
    simp
theorem made_pure (s : SpecD) (t : ByteArray) (hs : Sane s) (ht : t.size ≤ 4096) : Pure Tryd.prog 47 [encSpec s, encS t] (ints (keyOf s t)) [] := by
  have hcl := counted_len s t
  refine Pure.intro (ts := [4]) Tryd.func47 (by kernel_rfl) rfl rfl rfl (Nat.le_of_ble_eq_true rfl) ?_ ?_
  · simp [encB, encS, encSpec, PV.pure, pureL, pure_strs]
  refine sZ [1, 2] (fun P S K => XvBox S.nx (S.get 0) (fun r0 e0 => K ⟨[(1, S.get 1), (2, r0)], (Eff.hp e0 S.nx S.hp), (S.nx + e0.add.length), S.gh⟩)) fun K hK => ?_
  repeat' (first | (refine hK _ ?_; clear hK K) | ((first | refine xG_intro (fun hg => ?_) (fun hg => ?_) | refine fun (hg : (_ : Prop)) => ?_) <;> ((try simp only [BQ] at hg); try (exfalso; omega))) | refine And.intro ?_ ?_ | exact cl | refine one_take ?_ _ | refine one_drop ?_ _ | (refine st ?_; try simp only [encSpec]) | simp only [encSpec])
  all_goals try simp (disch := omega) only [wrap_id, wrap8_id]
  all_goals
   refine sZ [1, 2, 5] (fun P S K => K ⟨[(1, S.get 1), (2, S.get 2), (5, (.atom (.slice none 0 0)))], S.hp, S.nx, S.gh⟩) fun K hK => ?_
   repeat' (first | (refine hK _ ?_; clear hK K) | ((first | refine xG_intro (fun hg => ?_) (fun hg => ?_) | refine fun (hg : (_ : Prop)) => ?_) <;> ((try simp only [BQ] at hg); try (exfalso; omega))) | refine And.intro ?_ ?_ | exact cl | refine one_take ?_ _ | refine one_drop ?_ _ | (refine st ?_; try simp only [encSpec]) | simp only [encSpec])
   all_goals try simp (disch := omega) only [wrap_id, wrap8_id]
   refine Tri.born 5 1 rfl ?_
   all_goals
    refine sZ [1, 2, 5, 6] (fun P S K => K ⟨[(1, S.get 1), (2, S.get 2), (5, S.get 5), (6, (.atom (.slice none 0 0)))], S.hp, S.nx, S.gh⟩) fun K hK => ?_
    repeat' (first | (refine hK _ ?_; clear hK K) | ((first | refine xG_intro (fun hg => ?_) (fun hg => ?_) | refine fun (hg : (_ : Prop)) => ?_) <;> ((try simp only [BQ] at hg); try (exfalso; omega))) | refine And.intro ?_ ?_ | exact cl | refine one_take ?_ _ | refine one_drop ?_ _ | (refine st ?_; try simp only [encSpec]) | simp only [encSpec])
    all_goals try simp (disch := omega) only [wrap_id, wrap8_id]
    refine Tri.born 6 1 rfl ?_
    all_goals
     refine sZ [2, 5, 6, 7] (fun P S K => XvLoad P 35 (M S.hp S.nx) (S.get 2) (fun r0 _ => XvFnIV P (M S.hp S.nx) (.fn 70 []) [r0, (S.get 1)] (fun r2 e2 => K ⟨[(2, S.get 2), (5, S.get 5), (6, S.get 6), (7, r2)], (Eff.hp e2 S.nx S.hp), (S.nx + e2.add.length), S.gh⟩))) fun K hK => ?_
     repeat' (first | (refine hK _ ?_; clear hK K) | ((first | refine xG_intro (fun hg => ?_) (fun hg => ?_) | refine fun (hg : (_ : Prop)) => ?_) <;> ((try simp only [BQ] at hg); try (exfalso; omega))) | refine And.intro ?_ ?_ | exact cl | refine one_take ?_ _ | refine one_drop ?_ _ | refine .inl ⟨_, _, Counted_pure s t hs (by omega), ?_⟩ | refine ⟨_, _, Counted_pure s t hs (by omega), ?_⟩ | refine .inl ⟨_, _, word_pure s (ls (counted s t) k) hs (by omega), ?_⟩ | refine ⟨_, _, word_pure s (ls (counted s t) k) hs (by omega), ?_⟩ | (refine st ?_; try simp only [encSpec]) | simp only [encSpec])
     all_goals try simp (disch := omega) only [wrap_id, wrap8_id]
     all_goals
      refine Tri.seq ?_
      refine sZ [2, 5, 6, 7, 8] (fun P S K => K ⟨[(2, S.get 2), (5, S.get 5), (6, S.get 6), (7, S.get 7), (8, (.atom (.int .i64 0)))], S.hp, S.nx, S.gh⟩) fun K hK => ?_
      repeat' (first | (refine hK _ ?_; clear hK K) | ((first | refine xG_intro (fun hg => ?_) (fun hg => ?_) | refine fun (hg : (_ : Prop)) => ?_) <;> ((try simp only [BQ] at hg); try (exfalso; omega))) | refine And.intro ?_ ?_ | exact cl | refine one_take ?_ _ | refine one_drop ?_ _ | (refine st ?_; try simp only [encSpec]) | simp only [encSpec])
      all_goals try simp (disch := omega) only [wrap_id, wrap8_id]
      all_goals
       refine Tri.block ?_
       refine Tri.loop (α := (a : List Int) ×' (b : List Int) ×' (k : Nat) ×' (KeyI s t (counted s t) k a b)) (fun z => (fun (a : List Int) (b : List Int) (k : Nat) => (⟨[(2, .ptr 0 4 0 0), (5, .ob 1 1 0 a.length), (6, .ob 2 1 0 b.length), (7, strs (counted s t)), (8, encI k)], [(0, some ⟨4, [encSpec s]⟩), (1, some ⟨1, a.map encI⟩), (2, some ⟨1, b.map encI⟩)], 3, []⟩ : St)) z.1 z.2.1 z.2.2.1) (fun z => (fun (a : List Int) (b : List Int) (k : Nat) => (counted s t).length - k) z.1 z.2.1 z.2.2.1) ⟨[], [], 0, KeyI.start s t _⟩ [0, 1, 2] ?_ ?_
       · exact leqW7
       · rintro ⟨a, b, k, hK0⟩
         have hkl := hK0.le
         have hla : a.length ≤ 60000000 := Nat.le_trans hK0.la (Nat.le_trans (Nat.mul_le_mul (show k ≤ 4097 by omega) (show 3 * t.size + 1 ≤ 12289 by omega)) (by decide))
         have hlb : b.length ≤ 60000000 := Nat.le_trans hK0.lb (Nat.le_trans (Nat.mul_le_mul (show k ≤ 4097 by omega) (show t.size ≤ 4096 by omega)) (by decide))
         refine Tri.seq ?_
         refine sZ [2, 5, 6, 7, 8, 17] (fun P S K => XvLen P 25 (S.get 7) (fun r2 _ => XvBinOV P .lss 3 (.tmp 16) (S.get 8) r2 (fun r3 _ => K ⟨[(2, S.get 2), (5, S.get 5), (6, S.get 6), (7, S.get 7), (8, S.get 8), (17, r3)], S.hp, S.nx, S.gh⟩))) fun K hK => ?_
         repeat' (first | (refine hK _ ?_; clear hK K) | ((first | refine xG_intro (fun hg => ?_) (fun hg => ?_) | refine fun (hg : (_ : Prop)) => ?_) <;> ((try simp only [BQ] at hg); try (exfalso; omega))) | refine And.intro ?_ ?_ | exact cl | refine one_take ?_ _ | refine one_drop ?_ _ | (refine st ?_; try simp only [encSpec]) | simp only [encSpec])
         all_goals try simp (disch := omega) only [wrap_id, wrap8_id]
         all_goals
          refine Tri.cond rfl (fun h17 => ?_) (fun h17 => ?_)
          · try (cases h17; done)
            all_goals (try simp only [CQ] at h17)
            all_goals
             refine Tri.skip ?_
             refine Tri.seq ?_
             refine Tri.block ?_
             have hkc : k < (counted s t).length := by omega
             have hsz := counted_size hkc
             have hwl := wordS_len s (ls (counted s t) k)
             refine sD 11 [2, 5, 6, 7, 8, 9, 10] (fun P GD S K => XvLoad P 35 (M S.hp S.nx) (S.get 2) (fun r0 e0 => XvIndexAddr P 25 (S.get 7) (S.get 8) (fun r3 e3 => XvLoad P 9 (M S.hp S.nx) r3 (fun r4 e4 => XvFnV P (M S.hp S.nx) (.fn 71 []) [r0, r4] (fun r5 e5 => XvExtract r5 0 (fun r7 e7 => XvExtract r5 1 (fun r8 e8 => (trOk S.nx GD [⟨S.nx, 0, e0.rd, [], []⟩, ⟨S.nx, 0, [], [], []⟩, ⟨S.nx, 0, [], [], []⟩, ⟨S.nx, 0, e3.rd, [], []⟩, ⟨S.nx, 0, e4.rd, [], []⟩, (Eff.tr e5 S.nx), ⟨(S.nx + e5.add.length), 0, [], [], []⟩, ⟨(S.nx + e5.add.length), 0, e7.rd, [], []⟩, ⟨(S.nx + e5.add.length), 0, e8.rd, [], []⟩, ⟨(S.nx + e5.add.length), 0, [], [], []⟩, ⟨(S.nx + e5.add.length), 0, [], [], []⟩] = true ∧ K ⟨[(2, S.get 2), (5, S.get 5), (6, S.get 6), (7, S.get 7), (8, S.get 8), (9, r7), (10, r8)], (Eff.hp e5 S.nx S.hp), (S.nx + e5.add.length), S.gh⟩)))))))) fun K hK => ?_
             repeat' (first | (refine hK _ ?_; clear hK K) | (refine (?_ : trOk _ _ _ = true); kernel_rfl) | ((first | refine xG_intro (fun hg => ?_) (fun hg => ?_) | refine fun (hg : (_ : Prop)) => ?_) <;> ((try simp only [BQ] at hg); try (exfalso; omega))) | refine And.intro ?_ ?_ | exact cl | refine one_take ?_ _ | refine one_drop ?_ _ | refine .inl ⟨_, _, Counted_pure s t hs (by omega), ?_⟩ | refine ⟨_, _, Counted_pure s t hs (by omega), ?_⟩ | refine .inl ⟨_, _, word_pure s (ls (counted s t) k) hs (by omega), ?_⟩ | refine ⟨_, _, word_pure s (ls (counted s t) k) hs (by omega), ?_⟩ | (refine st ?_; try simp only [encSpec, getD_encS hkc]) | simp only [encSpec, getD_encS hkc])
             all_goals try simp (disch := omega) only [wrap_id, wrap8_id]
             all_goals
              refine Tri.seq ?_
              refine sZ [2, 5, 6, 7, 8, 9, 10, 34] (fun P S K => XvBinOV P .gtr 3 (.const (.int .i64 0)) (S.get 8) (.atom (.int .i64 0)) (fun r1 _ => Xgq r1 true (fun k => XvFieldAddr P 35 0 (S.get 2) (fun r3 _ => k r3)) (fun g3 r3 => Xgq g3 true (fun k => XvLoad P 4 (M S.hp S.nx) r3 (fun r4 _ => k r4)) (fun g4 r4 => XvPick g4 r4 (.atom (.bool false)) (fun r5 _ => K ⟨[(2, S.get 2), (5, S.get 5), (6, S.get 6), (7, S.get 7), (8, S.get 8), (9, S.get 9), (10, S.get 10), (34, r5)], S.hp, S.nx, S.gh⟩))))) fun K hK => ?_
              repeat' (first | (refine hK _ ?_; clear hK K) | ((first | refine xG_intro (fun hg => ?_) (fun hg => ?_) | refine fun (hg : (_ : Prop)) => ?_) <;> ((try simp only [BQ] at hg); try (exfalso; omega))) | refine And.intro ?_ ?_ | exact cl | refine one_take ?_ _ | refine one_drop ?_ _ | (refine st ?_; try simp only [encSpec]) | simp only [encSpec])
              all_goals try simp (disch := omega) only [wrap_id, wrap8_id]
              all_goals
               refine Tri.cond rfl (fun h34 => ?_) (fun h34 => ?_)
               · try (cases h34; done)
                 all_goals (try simp only [CQ] at h34)
                 all_goals
                  refine rZ [2, 5, 6, 7, 8, 9, 10] (fun P S K => XvBuildS P 22 1 S.nx [(0, (.atom (.int .i64 0)))] (fun r1 e1 => (22 = 22 ∧ XvAppend P 22 (M (Eff.hp e1 S.nx S.hp) (S.nx + e1.add.length)) (S.get 5) r1 (fun r2 e2 => K ⟨[(2, S.get 2), (5, r2), (6, S.get 6), (7, S.get 7), (8, S.get 8), (9, S.get 9), (10, S.get 10)], (Eff.hp e2 (S.nx + e1.add.length) (Eff.hp e1 S.nx S.hp)), ((S.nx + e1.add.length) + e2.add.length), S.gh⟩)))) fun K hK => ?_
                  repeat' (first | (refine hK _ ?_; clear hK K) | ((first | refine xG_intro (fun hg => ?_) (fun hg => ?_) | refine fun (hg : (_ : Prop)) => ?_) <;> ((try simp only [BQ] at hg); try (exfalso; omega))) | refine And.intro ?_ ?_ | exact cl | refine one_take ?_ _ | refine one_drop ?_ _ | (refine st ?_; try simp only [encSpec]) | simp only [encSpec])
                  all_goals try simp (disch := omega) only [wrap_id, wrap8_id]
                  all_goals
                   refine sZ [2, 5, 6, 7, 8, 10] (fun P S K => (22 = 22 ∧ XvAppend P 22 (M S.hp S.nx) (S.get 5) (S.get 9) (fun r2 e2 => K ⟨[(2, S.get 2), (5, r2), (6, S.get 6), (7, S.get 7), (8, S.get 8), (10, S.get 10)], (Eff.hp e2 S.nx S.hp), (S.nx + e2.add.length), S.gh⟩))) fun K hK => ?_
                   repeat' (first | (refine hK _ ?_; clear hK K) | ((first | refine xG_intro (fun hg => ?_) (fun hg => ?_) | refine fun (hg : (_ : Prop)) => ?_) <;> ((try simp only [BQ] at hg); try (exfalso; omega))) | refine And.intro ?_ ?_ | exact cl | refine one_take ?_ _ | refine one_drop ?_ _ | (refine st ?_; try simp only [encSpec]) | simp only [encSpec])
                   all_goals try simp (disch := omega) only [wrap_id, wrap8_id]
                   all_goals
                    refine rZ [2, 5, 6, 7, 8] (fun P S K => (22 = 22 ∧ XvAppend P 22 (M S.hp S.nx) (S.get 6) (S.get 10) (fun r2 e2 => K ⟨[(2, S.get 2), (5, S.get 5), (6, r2), (7, S.get 7), (8, S.get 8)], (Eff.hp e2 S.nx S.hp), (S.nx + e2.add.length), S.gh⟩))) fun K hK => ?_
                    repeat' (first | (refine hK _ ?_; clear hK K) | ((first | refine xG_intro (fun hg => ?_) (fun hg => ?_) | refine fun (hg : (_ : Prop)) => ?_) <;> ((try simp only [BQ] at hg); try (exfalso; omega))) | refine And.intro ?_ ?_ | exact cl | refine one_take ?_ _ | refine one_drop ?_ _ | (refine st ?_; try simp only [encSpec]) | simp only [encSpec])
                    all_goals try simp (disch := omega) only [wrap_id, wrap8_id]
                    all_goals
                     refine rZ [2, 5, 6, 7, 8] (fun P S K => XvBinOV P .add 3 (.const (.int .i64 1)) (S.get 8) (.atom (.int .i64 1)) (fun r1 _ => K ⟨[(2, S.get 2), (5, S.get 5), (6, S.get 6), (7, S.get 7), (8, r1)], S.hp, S.nx, S.gh⟩)) fun K hK => ?_
                     repeat' (first | (refine hK _ ?_; clear hK K) | ((first | refine xG_intro (fun hg => ?_) (fun hg => ?_) | refine fun (hg : (_ : Prop)) => ?_) <;> ((try simp only [BQ] at hg); try (exfalso; omega))) | refine And.intro ?_ ?_ | exact cl | refine one_take ?_ _ | refine one_drop ?_ _ | (refine st ?_; try simp only [encSpec]) | simp only [encSpec])
                     all_goals try simp (disch := omega) only [wrap_id, wrap8_id]
                     all_goals
                      first
                      | (refine ⟨⟨_, _, k + 1, hK0.next hkc hsz (if_pos ⟨by omega, by assumption⟩).symm⟩, [0, 5, 6], by dsimp only; omega, ?_⟩
                         exact leqW7)
                      | (refine ⟨⟨_, _, k + 1, hK0.next hkc hsz (if_neg (by rintro ⟨h1, h2⟩; first | omega | (rw [h2] at h34; cases h34))).symm⟩, [0, 3, 4], by dsimp only; omega, ?_⟩
                         exact leqW7)
               · try (cases h34; done)
                 all_goals (try simp only [CQ] at h34)
                 all_goals
                  refine Tri.skip ?_
                  refine sZ [2, 5, 6, 7, 8, 10] (fun P S K => (22 = 22 ∧ XvAppend P 22 (M S.hp S.nx) (S.get 5) (S.get 9) (fun r2 e2 => K ⟨[(2, S.get 2), (5, r2), (6, S.get 6), (7, S.get 7), (8, S.get 8), (10, S.get 10)], (Eff.hp e2 S.nx S.hp), (S.nx + e2.add.length), S.gh⟩))) fun K hK => ?_
                  repeat' (first | (refine hK _ ?_; clear hK K) | ((first | refine xG_intro (fun hg => ?_) (fun hg => ?_) | refine fun (hg : (_ : Prop)) => ?_) <;> ((try simp only [BQ] at hg); try (exfalso; omega))) | refine And.intro ?_ ?_ | exact cl | refine one_take ?_ _ | refine one_drop ?_ _ | (refine st ?_; try simp only [encSpec]) | simp only [encSpec])
                  all_goals try simp (disch := omega) only [wrap_id, wrap8_id]
                  all_goals
                   refine rZ [2, 5, 6, 7, 8] (fun P S K => (22 = 22 ∧ XvAppend P 22 (M S.hp S.nx) (S.get 6) (S.get 10) (fun r2 e2 => K ⟨[(2, S.get 2), (5, S.get 5), (6, r2), (7, S.get 7), (8, S.get 8)], (Eff.hp e2 S.nx S.hp), (S.nx + e2.add.length), S.gh⟩))) fun K hK => ?_
                   repeat' (first | (refine hK _ ?_; clear hK K) | ((first | refine xG_intro (fun hg => ?_) (fun hg => ?_) | refine fun (hg : (_ : Prop)) => ?_) <;> ((try simp only [BQ] at hg); try (exfalso; omega))) | refine And.intro ?_ ?_ | exact cl | refine one_take ?_ _ | refine one_drop ?_ _ | (refine st ?_; try simp only [encSpec]) | simp only [encSpec])
                   all_goals try simp (disch := omega) only [wrap_id, wrap8_id]
                   all_goals
                    refine rZ [2, 5, 6, 7, 8] (fun P S K => XvBinOV P .add 3 (.const (.int .i64 1)) (S.get 8) (.atom (.int .i64 1)) (fun r1 _ => K ⟨[(2, S.get 2), (5, S.get 5), (6, S.get 6), (7, S.get 7), (8, r1)], S.hp, S.nx, S.gh⟩)) fun K hK => ?_
                    repeat' (first | (refine hK _ ?_; clear hK K) | ((first | refine xG_intro (fun hg => ?_) (fun hg => ?_) | refine fun (hg : (_ : Prop)) => ?_) <;> ((try simp only [BQ] at hg); try (exfalso; omega))) | refine And.intro ?_ ?_ | exact cl | refine one_take ?_ _ | refine one_drop ?_ _ | (refine st ?_; try simp only [encSpec]) | simp only [encSpec])
                    all_goals try simp (disch := omega) only [wrap_id, wrap8_id]
                    all_goals
                     first
                     | (refine ⟨⟨_, _, k + 1, hK0.next hkc hsz (if_pos ⟨by omega, by assumption⟩).symm⟩, [0, 5, 6], by dsimp only; omega, ?_⟩
                        exact leqW7)
                     | (refine ⟨⟨_, _, k + 1, hK0.next hkc hsz (if_neg (by rintro ⟨h1, h2⟩; first | omega | (rw [h2] at h34; cases h34))).symm⟩, [0, 3, 4], by dsimp only; omega, ?_⟩
                        exact leqW7)
          · try (cases h17; done)
            all_goals (try simp only [CQ] at h17)
            all_goals
             refine Tri.exit ?_
             have hfin := hK0.done (by omega)
             refine sZ [4] (fun P S K => XvBuildS P 22 1 S.nx [(0, (.atom (.int .i64 (-1))))] (fun r1 e1 => (22 = 22 ∧ XvAppend P 22 (M (Eff.hp e1 S.nx S.hp) (S.nx + e1.add.length)) (S.get 5) r1 (fun r2 e2 => (22 = 22 ∧ XvAppend P 22 (M (Eff.hp e2 (S.nx + e1.add.length) (Eff.hp e1 S.nx S.hp)) ((S.nx + e1.add.length) + e2.add.length)) r2 (S.get 6) (fun r4 e4 => K ⟨[(4, r4)], (Eff.hp e4 ((S.nx + e1.add.length) + e2.add.length) (Eff.hp e2 (S.nx + e1.add.length) (Eff.hp e1 S.nx S.hp))), (((S.nx + e1.add.length) + e2.add.length) + e4.add.length), S.gh⟩)))))) fun K hK => ?_
             repeat' (first | (refine hK _ ?_; clear hK K) | ((first | refine xG_intro (fun hg => ?_) (fun hg => ?_) | refine fun (hg : (_ : Prop)) => ?_) <;> ((try simp only [BQ] at hg); try (exfalso; omega))) | refine And.intro ?_ ?_ | exact cl | refine one_take ?_ _ | refine one_drop ?_ _ | (refine st ?_; try simp only [encSpec]) | simp only [encSpec])
             all_goals try simp (disch := omega) only [wrap_id, wrap8_id]
             all_goals
              refine Tri.ret ?_
              show ResOk _ _ _ _
              unfold keyOf
              rw [hfin]
              exact ResOk.frz 5 ((seal_row rfl rfl (by simp <;> omega) lpuW7).trans (congrArg (PV.sl 1) lelW7)) (by first | exact pure_ints _ | exact pure_strs _)
end Go.Proofs.YtfnkciboencifaaDoor
set_option linter.all false
namespace Go.Proofs.YtfnkciboencifaaDoor
open Go Go.RowKit
set_option linter.unusedSimpArgs false
set_option linter.unusedVariables false
set_option maxRecDepth 20000
set_option maxHeartbeats 2000000
theorem lstW8 {p : Prop} (h : p := by (first | rfl | (simp [St.born, St.known, retV, St.get, St.obj, lk, sealed, PV.ren, renL, rmap, AO.ren, ints, strs, encI, encS, map_sealed_encI, map_sealed_encS, map_sealed_ints, map_sealed_strs, map_ren_encI, map_ren_encS, map_ren_ints, map_ren_strs, renL_encI, renL_encS, renL_ints, renL_strs, ren_spec, take_map_len, List.take_length]; done))) : p := h
theorem lpvW8 {p : Prop} (h : p := by (first | rfl | (simp [pure_ints, pure_strs, PV.pure, pureL, pureL_encI, pureL_encS, pureL_ints, pureL_strs, pure_spec]; done))) : p := h
theorem lsrW8 {p : Prop} (h : p := by (first | rfl | (simp [St.born, St.known, retV, St.get, St.obj, lk, sealed, PV.ren, renL, rmap, AO.ren, ints, strs, encI, encS, map_sealed_encI, map_sealed_encS, map_sealed_ints, map_sealed_strs, map_ren_encI, map_ren_encS, map_ren_ints, map_ren_strs, renL_encI, renL_encS, renL_ints, renL_strs, ren_spec]; done))) : p := h
noncomputable def keyE (s : SpecD) (t : ByteArray) : Int := if validE s ≠ 0 then validE s else if 4096 < t.size then 4 else 0
noncomputable def keyR (s : SpecD) (t : ByteArray) : List Int := if keyE s t = 0 then keyOf s t else []
theorem keyE_bad {s : SpecD} {t : ByteArray} (h : validE s ≠ 0) : keyE s t = validE s ∧ keyR s t = [] := by
  have e : keyE s t = validE s := if_pos h
  exact ⟨e, if_neg (by rw [e]; exact h)⟩
theorem keyE_long {s : SpecD} {t : ByteArray} (h : validE s = 0) (ht : 4096 < t.size) : keyE s t = 4 ∧ keyR s t = [] := by
  have e : keyE s t = 4 := by unfold keyE; rw [if_neg (by rw [h]; decide), if_pos ht]
  exact ⟨e, if_neg (by rw [e]; decide)⟩
theorem keyE_ok {s : SpecD} {t : ByteArray} (h : validE s = 0) (ht : ¬ 4096 < t.size) : keyE s t = 0 ∧ keyR s t = keyOf s t := by
  have e : keyE s t = 0 := by unfold keyE; rw [if_neg (by rw [h]; decide), if_neg ht]
  exact ⟨e, if_pos e⟩
theorem rKey_pure (s : SpecD) (t : ByteArray) (hs : Sane s) (ht : t.size ≤ 4294967296) : Pure Tryd.prog 17 [encSpec s, encS t] (.tup [ints (keyR s t), encI (keyE s t)]) [] := by
  refine Pure.intro (ts := [4, 5]) Tryd.func17 (by kernel_rfl) rfl rfl rfl (Nat.le_of_ble_eq_true rfl) ?_ ?_
  · simp [encB, encS, encSpec, PV.pure, pureL, pure_strs]
  refine sZ [1, 2] (fun P S K => XvBox S.nx (S.get 0) (fun r0 e0 => K ⟨[(1, S.get 1), (2, r0)], (Eff.hp e0 S.nx S.hp), (S.nx + e0.add.length), S.gh⟩)) fun K hK => ?_
  repeat' (first | (refine hK _ ?_; clear hK K) | ((first | refine xG_intro (fun hg => ?_) (fun hg => ?_) | refine fun (hg : (_ : Prop)) => ?_) <;> ((try simp only [BQ] at hg); try (exfalso; omega))) | refine And.intro ?_ ?_ | exact cl | refine one_take ?_ _ | refine one_drop ?_ _ | (refine st ?_; try simp only [encSpec]) | simp only [encSpec])
  all_goals try simp (disch := omega) only [wrap_id, wrap8_id]
  all_goals
   refine sZ [1, 2, 6] (fun P S K => XvLoad P 35 (M S.hp S.nx) (S.get 2) (fun r0 _ => XvFnIV P (M S.hp S.nx) (.fn 15 []) [r0] (fun r1 e1 => K ⟨[(1, S.get 1), (2, S.get 2), (6, r1)], (Eff.hp e1 S.nx S.hp), (S.nx + e1.add.length), S.gh⟩))) fun K hK => ?_
   repeat' (first | (refine hK _ ?_; clear hK K) | ((first | refine xG_intro (fun hg => ?_) (fun hg => ?_) | refine fun (hg : (_ : Prop)) => ?_) <;> ((try simp only [BQ] at hg); try (exfalso; omega))) | refine And.intro ?_ ?_ | exact cl | refine one_take ?_ _ | refine one_drop ?_ _ | refine .inl ⟨_, _, rValid_pure s hs, ?_⟩ | refine ⟨_, _, rValid_pure s hs, ?_⟩ | refine .inl ⟨_, _, made_pure s t hs (by omega), ?_⟩ | refine ⟨_, _, made_pure s t hs (by omega), ?_⟩ | (refine st ?_; try simp only [encSpec]) | simp only [encSpec])
   all_goals try simp (disch := omega) only [wrap_id, wrap8_id]
   all_goals
    refine Tri.seq ?_
    refine sZ [1, 2, 6, 10] (fun P S K => XvBinOV P .neq 30 (.const (.int .i64 0)) (S.get 6) (.atom (.int .i64 0)) (fun r1 _ => K ⟨[(1, S.get 1), (2, S.get 2), (6, S.get 6), (10, r1)], S.hp, S.nx, S.gh⟩)) fun K hK => ?_
    repeat' (first | (refine hK _ ?_; clear hK K) | ((first | refine xG_intro (fun hg => ?_) (fun hg => ?_) | refine fun (hg : (_ : Prop)) => ?_) <;> ((try simp only [BQ] at hg); try (exfalso; omega))) | refine And.intro ?_ ?_ | exact cl | refine one_take ?_ _ | refine one_drop ?_ _ | (refine st ?_; try simp only [encSpec]) | simp only [encSpec])
    all_goals try simp (disch := omega) only [wrap_id, wrap8_id]
    all_goals
     refine Tri.cond rfl (fun h10 => ?_) (fun h10 => ?_)
     · try (cases h10; done)
       all_goals (try simp only [CQ] at h10)
       all_goals
        refine sZ [4, 5] (fun P S K => K ⟨[(4, (.atom (.slice none 0 0))), (5, (S.get 6))], S.hp, S.nx, S.gh⟩) fun K hK => ?_
        repeat' (first | (refine hK _ ?_; clear hK K) | ((first | refine xG_intro (fun hg => ?_) (fun hg => ?_) | refine fun (hg : (_ : Prop)) => ?_) <;> ((try simp only [BQ] at hg); try (exfalso; omega))) | refine And.intro ?_ ?_ | exact cl | refine one_take ?_ _ | refine one_drop ?_ _ | (refine st ?_; try simp only [encSpec]) | simp only [encSpec])
        all_goals try simp (disch := omega) only [wrap_id, wrap8_id]
        refine Tri.asSl 4 1 rfl ?_
        all_goals
         refine Tri.ret ?_
         show ResOk _ _ _ _
         rw [(keyE_bad h10).1, (keyE_bad h10).2]
         exact ResOk.frz 5 lstW8 lpvW8
     · try (cases h10; done)
       all_goals (try simp only [CQ] at h10)
       all_goals
        refine Tri.skip ?_
        refine Tri.seq ?_
        refine sZ [1, 2, 14] (fun P S K => XvLen P 9 (S.get 1) (fun r1 _ => XvBinOV P .gtr 3 (.const (.int .i64 4096)) r1 (.atom (.int .i64 4096)) (fun r2 _ => K ⟨[(1, S.get 1), (2, S.get 2), (14, r2)], S.hp, S.nx, S.gh⟩))) fun K hK => ?_
        repeat' (first | (refine hK _ ?_; clear hK K) | ((first | refine xG_intro (fun hg => ?_) (fun hg => ?_) | refine fun (hg : (_ : Prop)) => ?_) <;> ((try simp only [BQ] at hg); try (exfalso; omega))) | refine And.intro ?_ ?_ | exact cl | refine one_take ?_ _ | refine one_drop ?_ _ | (refine st ?_; try simp only [encSpec]) | simp only [encSpec])
        all_goals try simp (disch := omega) only [wrap_id, wrap8_id]
        all_goals
         refine Tri.cond rfl (fun h14 => ?_) (fun h14 => ?_)
         · try (cases h14; done)
           all_goals (try simp only [CQ] at h14)
           all_goals
            refine sZ [4, 5] (fun P S K => K ⟨[(4, (.atom (.slice none 0 0))), (5, (.atom (.int .i64 4)))], S.hp, S.nx, S.gh⟩) fun K hK => ?_
            repeat' (first | (refine hK _ ?_; clear hK K) | ((first | refine xG_intro (fun hg => ?_) (fun hg => ?_) | refine fun (hg : (_ : Prop)) => ?_) <;> ((try simp only [BQ] at hg); try (exfalso; omega))) | refine And.intro ?_ ?_ | exact cl | refine one_take ?_ _ | refine one_drop ?_ _ | (refine st ?_; try simp only [encSpec]) | simp only [encSpec])
            all_goals try simp (disch := omega) only [wrap_id, wrap8_id]
            refine Tri.asSl 4 1 rfl ?_
            all_goals
             refine Tri.ret ?_
             show ResOk _ _ _ _
             rw [(keyE_long h10 (by omega)).1, (keyE_long h10 (by omega)).2]
             exact ResOk.frz 5 lstW8 lpvW8
         · try (cases h14; done)
           all_goals (try simp only [CQ] at h14)
           all_goals
            refine Tri.skip ?_
            refine sZ [4, 5] (fun P S K => XvLoad P 35 (M S.hp S.nx) (S.get 2) (fun r0 _ => XvFnIV P (M S.hp S.nx) (.fn 47 []) [r0, (S.get 1)] (fun r2 e2 => K ⟨[(4, r2), (5, (.atom (.int .i64 0)))], (Eff.hp e2 S.nx S.hp), (S.nx + e2.add.length), S.gh⟩))) fun K hK => ?_
            repeat' (first | (refine hK _ ?_; clear hK K) | ((first | refine xG_intro (fun hg => ?_) (fun hg => ?_) | refine fun (hg : (_ : Prop)) => ?_) <;> ((try simp only [BQ] at hg); try (exfalso; omega))) | refine And.intro ?_ ?_ | exact cl | refine one_take ?_ _ | refine one_drop ?_ _ | refine .inl ⟨_, _, rValid_pure s hs, ?_⟩ | refine ⟨_, _, rValid_pure s hs, ?_⟩ | refine .inl ⟨_, _, made_pure s t hs (by omega), ?_⟩ | refine ⟨_, _, made_pure s t hs (by omega), ?_⟩ | (refine st ?_; try simp only [encSpec]) | simp only [encSpec])
            all_goals try simp (disch := omega) only [wrap_id, wrap8_id]
            all_goals
             refine Tri.ret ?_
             show ResOk _ _ _ _
             rw [(keyE_ok h10 (by omega)).1, (keyE_ok h10 (by omega)).2]
             exact ResOk.frz 5 lstW8 lpvW8
theorem keyL_len (s : SpecD) (t : ByteArray) : ∀ (l : List ByteArray) (f : Bool), (∀ x, x ∈ l → x.size ≤ t.size) → (keyL s f l).1.length ≤ l.length * (3 * t.size + 1) ∧ (keyL s f l).2.length ≤ l.length * t.size
  | [], f, _ => by simp [keyL]
  | w :: l, f, h => by
    have h1 := keyL_len s t l false (fun x hx => h x (List.mem_cons_of_mem _ hx))
    have h2 := wordS_len s w
    have h3 := h w (List.mem_cons_self ..)
    have h4 : (if (!f && s.words) = true then [(0 : Int)] else []).length ≤ 1 := by split <;> simp
    rw [keyL]
    have e1 : (l.length + 1) * (3 * t.size + 1) = l.length * (3 * t.size + 1) + (3 * t.size + 1) := Nat.succ_mul _ _
    have e2 : (l.length + 1) * t.size = l.length * t.size + t.size := Nat.succ_mul _ _
    simp only [List.length_append, List.length_cons]
    rw [e1, e2]
    omega
theorem keyR_len (s : SpecD) (t : ByteArray) : (keyR s t).length ≤ 120000000 := by
  unfold keyR
  split
  · rename_i h
    have ht : t.size ≤ 4096 := by
      apply Nat.le_of_not_lt
      intro hx
      by_cases hv : validE s = 0
      · rw [(keyE_long hv hx).1] at h; cases h
      · rw [(keyE_bad hv).1] at h; exact hv h
    have h1 := keyL_len s t (counted s t) true (fun x hx => words_size t x (counted_sub s t x hx))
    have h2 := counted_len s t
    have a : (counted s t).length * (3 * t.size + 1) ≤ 4097 * 12289 := Nat.mul_le_mul (by omega) (by omega)
    have b : (counted s t).length * t.size ≤ 4097 * 4096 := Nat.mul_le_mul (by omega) (by omega)
    unfold keyOf
    simp only [List.length_append, List.length_cons, List.length_nil]
    omega
  · simp
noncomputable def cmpE (s : SpecD) (a b : ByteArray) : Int := if keyE s a ≠ 0 then keyE s a else keyE s b
noncomputable def cmpR (s : SpecD) (a b : ByteArray) : Int := if cmpE s a b = 0 then lexi (keyR s a) (keyR s b) else 0
theorem rCompare_pure (s : SpecD) (a b : ByteArray) (hs : Sane s) (ha : a.size ≤ 4294967296) (hb : b.size ≤ 4294967296) : Pure Tryd.prog 21 [encSpec s, encS a, encS b] (.tup [encI (cmpR s a b), encI (cmpE s a b)]) [] := by
  have hka := keyR_len s a
  have hkb := keyR_len s b
  refine Pure.intro (ts := [6, 7]) Tryd.func21 (by kernel_rfl) rfl rfl rfl (Nat.le_of_ble_eq_true rfl) ?_ ?_
  · simp [encB, encS, encSpec, PV.pure, pureL, pure_strs]
  refine sZ [1, 2, 3] (fun P S K => XvBox S.nx (S.get 0) (fun r0 e0 => K ⟨[(1, S.get 1), (2, S.get 2), (3, r0)], (Eff.hp e0 S.nx S.hp), (S.nx + e0.add.length), S.gh⟩)) fun K hK => ?_
  repeat' (first | (refine hK _ ?_; clear hK K) | ((first | refine xG_intro (fun hg => ?_) (fun hg => ?_) | refine fun (hg : (_ : Prop)) => ?_) <;> ((try simp only [BQ] at hg); try (exfalso; omega))) | refine And.intro ?_ ?_ | exact cl | refine one_take ?_ _ | refine one_drop ?_ _ | (refine st ?_; try simp only [encSpec]) | simp only [encSpec])
  all_goals try simp (disch := omega) only [wrap_id, wrap8_id]
  all_goals
   refine sZ [2, 3, 8, 9] (fun P S K => XvLoad P 35 (M S.hp S.nx) (S.get 3) (fun r0 _ => XvFnIV P (M S.hp S.nx) (.fn 17 []) [r0, (S.get 1)] (fun r2 e2 => XvExtract r2 0 (fun r4 _ => XvExtract r2 1 (fun r5 _ => K ⟨[(2, S.get 2), (3, S.get 3), (8, r4), (9, r5)], (Eff.hp e2 S.nx S.hp), (S.nx + e2.add.length), S.gh⟩))))) fun K hK => ?_
   repeat' (first | (refine hK _ ?_; clear hK K) | ((first | refine xG_intro (fun hg => ?_) (fun hg => ?_) | refine fun (hg : (_ : Prop)) => ?_) <;> ((try simp only [BQ] at hg); try (exfalso; omega))) | refine And.intro ?_ ?_ | exact cl | refine one_take ?_ _ | refine one_drop ?_ _ | refine .inl ⟨_, _, rKey_pure s a hs ha, ?_⟩ | refine ⟨_, _, rKey_pure s a hs ha, ?_⟩ | refine .inl ⟨_, _, rKey_pure s b hs hb, ?_⟩ | refine ⟨_, _, rKey_pure s b hs hb, ?_⟩ | refine .inl ⟨_, _, Lexical_pure _ _ (by omega) (by omega), ?_⟩ | refine ⟨_, _, Lexical_pure _ _ (by omega) (by omega), ?_⟩ | (refine st ?_; try simp only [encSpec]) | simp only [encSpec])
   all_goals try simp (disch := omega) only [wrap_id, wrap8_id]
   all_goals
    refine Tri.seq ?_
    refine sZ [2, 3, 8, 9, 19] (fun P S K => XvBinOV P .neq 30 (.const (.int .i64 0)) (S.get 9) (.atom (.int .i64 0)) (fun r1 _ => K ⟨[(2, S.get 2), (3, S.get 3), (8, S.get 8), (9, S.get 9), (19, r1)], S.hp, S.nx, S.gh⟩)) fun K hK => ?_
    repeat' (first | (refine hK _ ?_; clear hK K) | ((first | refine xG_intro (fun hg => ?_) (fun hg => ?_) | refine fun (hg : (_ : Prop)) => ?_) <;> ((try simp only [BQ] at hg); try (exfalso; omega))) | refine And.intro ?_ ?_ | exact cl | refine one_take ?_ _ | refine one_drop ?_ _ | (refine st ?_; try simp only [encSpec]) | simp only [encSpec])
    all_goals try simp (disch := omega) only [wrap_id, wrap8_id]
    all_goals
     refine Tri.cond rfl (fun h19 => ?_) (fun h19 => ?_)
     · try (cases h19; done)
       all_goals (try simp only [CQ] at h19)
       all_goals
        refine sZ [6, 7] (fun P S K => K ⟨[(6, (.atom (.int .i64 0))), (7, (S.get 9))], S.hp, S.nx, S.gh⟩) fun K hK => ?_
        repeat' (first | (refine hK _ ?_; clear hK K) | ((first | refine xG_intro (fun hg => ?_) (fun hg => ?_) | refine fun (hg : (_ : Prop)) => ?_) <;> ((try simp only [BQ] at hg); try (exfalso; omega))) | refine And.intro ?_ ?_ | exact cl | refine one_take ?_ _ | refine one_drop ?_ _ | (refine st ?_; try simp only [encSpec]) | simp only [encSpec])
        all_goals try simp (disch := omega) only [wrap_id, wrap8_id]
        all_goals
         refine Tri.ret ?_
         show ResOk _ _ _ _
         have e : cmpE s a b = keyE s a := if_pos h19
         have r : cmpR s a b = 0 := if_neg (by rw [e]; exact h19)
         rw [e, r]
         exact ResOk.val lsrW8 lpvW8
     · try (cases h19; done)
       all_goals (try simp only [CQ] at h19)
       all_goals
        refine Tri.skip ?_
        refine sZ [8, 10, 11] (fun P S K => XvLoad P 35 (M S.hp S.nx) (S.get 3) (fun r0 _ => XvFnIV P (M S.hp S.nx) (.fn 17 []) [r0, (S.get 2)] (fun r2 e2 => XvExtract r2 0 (fun r4 _ => XvExtract r2 1 (fun r5 _ => K ⟨[(8, S.get 8), (10, r4), (11, r5)], (Eff.hp e2 S.nx S.hp), (S.nx + e2.add.length), S.gh⟩))))) fun K hK => ?_
        repeat' (first | (refine hK _ ?_; clear hK K) | ((first | refine xG_intro (fun hg => ?_) (fun hg => ?_) | refine fun (hg : (_ : Prop)) => ?_) <;> ((try simp only [BQ] at hg); try (exfalso; omega))) | refine And.intro ?_ ?_ | exact cl | refine one_take ?_ _ | refine one_drop ?_ _ | refine .inl ⟨_, _, rKey_pure s a hs ha, ?_⟩ | refine ⟨_, _, rKey_pure s a hs ha, ?_⟩ | refine .inl ⟨_, _, rKey_pure s b hs hb, ?_⟩ | refine ⟨_, _, rKey_pure s b hs hb, ?_⟩ | refine .inl ⟨_, _, Lexical_pure _ _ (by omega) (by omega), ?_⟩ | refine ⟨_, _, Lexical_pure _ _ (by omega) (by omega), ?_⟩ | (refine st ?_; try simp only [encSpec]) | simp only [encSpec])
        all_goals try simp (disch := omega) only [wrap_id, wrap8_id]
        all_goals
         refine Tri.seq ?_
         refine sZ [8, 10, 11, 28] (fun P S K => XvBinOV P .neq 30 (.const (.int .i64 0)) (S.get 11) (.atom (.int .i64 0)) (fun r1 _ => K ⟨[(8, S.get 8), (10, S.get 10), (11, S.get 11), (28, r1)], S.hp, S.nx, S.gh⟩)) fun K hK => ?_
         repeat' (first | (refine hK _ ?_; clear hK K) | ((first | refine xG_intro (fun hg => ?_) (fun hg => ?_) | refine fun (hg : (_ : Prop)) => ?_) <;> ((try simp only [BQ] at hg); try (exfalso; omega))) | refine And.intro ?_ ?_ | exact cl | refine one_take ?_ _ | refine one_drop ?_ _ | (refine st ?_; try simp only [encSpec]) | simp only [encSpec])
         all_goals try simp (disch := omega) only [wrap_id, wrap8_id]
         all_goals
          refine Tri.cond rfl (fun h28 => ?_) (fun h28 => ?_)
          · try (cases h28; done)
            all_goals (try simp only [CQ] at h28)
            all_goals
             refine sZ [6, 7] (fun P S K => K ⟨[(6, (.atom (.int .i64 0))), (7, (S.get 11))], S.hp, S.nx, S.gh⟩) fun K hK => ?_
             repeat' (first | (refine hK _ ?_; clear hK K) | ((first | refine xG_intro (fun hg => ?_) (fun hg => ?_) | refine fun (hg : (_ : Prop)) => ?_) <;> ((try simp only [BQ] at hg); try (exfalso; omega))) | refine And.intro ?_ ?_ | exact cl | refine one_take ?_ _ | refine one_drop ?_ _ | (refine st ?_; try simp only [encSpec]) | simp only [encSpec])
             all_goals try simp (disch := omega) only [wrap_id, wrap8_id]
             all_goals
              refine Tri.ret ?_
              show ResOk _ _ _ _
              have e : cmpE s a b = keyE s b := if_neg (by rw [h19]; decide)
              have r : cmpR s a b = 0 := if_neg (by rw [e]; exact h28)
              rw [e, r]
              exact ResOk.val lsrW8 lpvW8
          · try (cases h28; done)
            all_goals (try simp only [CQ] at h28)
            all_goals
             refine Tri.skip ?_
             refine sZ [6, 7] (fun P S K => XvFnIV P (M S.hp S.nx) (.fn 49 []) [(S.get 8), (S.get 10)] (fun r2 e2 => K ⟨[(6, r2), (7, (.atom (.int .i64 0)))], (Eff.hp e2 S.nx S.hp), (S.nx + e2.add.length), S.gh⟩)) fun K hK => ?_
             repeat' (first | (refine hK _ ?_; clear hK K) | ((first | refine xG_intro (fun hg => ?_) (fun hg => ?_) | refine fun (hg : (_ : Prop)) => ?_) <;> ((try simp only [BQ] at hg); try (exfalso; omega))) | refine And.intro ?_ ?_ | exact cl | refine one_take ?_ _ | refine one_drop ?_ _ | refine .inl ⟨_, _, rKey_pure s a hs ha, ?_⟩ | refine ⟨_, _, rKey_pure s a hs ha, ?_⟩ | refine .inl ⟨_, _, rKey_pure s b hs hb, ?_⟩ | refine ⟨_, _, rKey_pure s b hs hb, ?_⟩ | refine .inl ⟨_, _, Lexical_pure _ _ (by omega) (by omega), ?_⟩ | refine ⟨_, _, Lexical_pure _ _ (by omega) (by omega), ?_⟩ | (refine st ?_; try simp only [encSpec]) | simp only [encSpec])
             all_goals try simp (disch := omega) only [wrap_id, wrap8_id]
             all_goals
              refine Tri.ret ?_
              show ResOk _ _ _ _
              have e : cmpE s a b = 0 := (if_neg (by rw [h19]; decide)).trans h28
              have r : cmpR s a b = lexi (keyR s a) (keyR s b) := if_pos e
              rw [e, r]
              exact ResOk.val lsrW8 lpvW8
/-- The place below which nothing is greater. -/
def posD (x : List Int) (ks : List (List Int)) : Nat → Nat
  | 0 => 0
  | k + 1 => if lexi x (ks.getD k []) < 0 then posD x ks k else k + 1
def insAt {α : Type} (l : List α) (k : Nat) (x : α) : List α := l.take k ++ x :: l.drop k
theorem insAt_len {α : Type} (l : List α) (k : Nat) (x : α) : (insAt l k x).length = l.length + 1 := by simp [insAt]; omega
noncomputable def insS (s : SpecD) (out : List ByteArray) (x : ByteArray) : List ByteArray := insAt out (posD (keyR s x) (out.map (keyR s)) out.length) x
noncomputable def sortS (s : SpecD) (l : List ByteArray) : List ByteArray := l.foldl (insS s) []
/-- Where the sorting stands. -/
structure SortI (s : SpecD) (l : List ByteArray) (i : Nat) (out : List ByteArray) : Prop where
  le : i ≤ l.length
  len : out.length = i
  core : sortS s l = (l.drop i).foldl (insS s) out
  small : ∀ j, j < i → (ls l j).size ≤ 4096
theorem SortI.start (s : SpecD) (l : List ByteArray) : SortI s l 0 [] := ⟨Nat.zero_le _, rfl, rfl, fun j hj => by omega⟩
theorem SortI.next {s : SpecD} {l : List ByteArray} {i : Nat} {out : List ByteArray} (h : SortI s l i out) (hi : i < l.length) (hs : (ls l i).size ≤ 4096) : SortI s l (i + 1) (insS s out (ls l i)) := by
  refine ⟨hi, by unfold insS; rw [insAt_len, h.len], by rw [h.core, drop_ls hi]; rfl, fun j hj => ?_⟩
  rcases Nat.lt_succ_iff_lt_or_eq.1 hj with hj | rfl
  · exact h.small j hj
  · exact hs
theorem SortI.done {s : SpecD} {l : List ByteArray} {i : Nat} {out : List ByteArray} (h : SortI s l i out) (hi : l.length ≤ i) : sortS s l = out ∧ ¬ ∃ x, x ∈ l ∧ 4096 < x.size := by
  refine ⟨by rw [h.core, List.drop_eq_nil_of_le hi]; rfl, ?_⟩
  rintro ⟨x, hx, hl⟩
  obtain ⟨j, hj, rfl⟩ := List.getElem_of_mem hx
  have := h.small j (by omega)
  have e : ls l j = l[j] := by simp [ls, List.getD_eq_getElem?_getD, hj]
  rw [e] at this
  omega
/-- Where the search of the place stands. -/
structure PosI (x : List Int) (ks : List (List Int)) (n k : Nat) : Prop where
  le : k ≤ n
  core : posD x ks n = posD x ks k
end Go.Proofs.YtfnkciboencifaaDoor
set_option linter.all false
namespace Go.Proofs.YtfnkciboencifaaDoor
open Go Go.RowKit
set_option linter.unusedSimpArgs false
set_option linter.unusedVariables false
def toE (s : SpecD) : Elder.SpecD := ⟨s.words, s.skip, s.numbers, s.order⟩

theorem ls_of_mem {l : List ByteArray} {x : ByteArray} (h : x ∈ l) : ∃ k, k < l.length ∧ ls l k = x := by
  obtain ⟨k, hk, rfl⟩ := List.mem_iff_getElem.1 h
  exact ⟨k, hk, by simp [ls, List.getD_eq_getElem?_getD, hk]⟩
theorem ls_in {l : List ByteArray} {k : Nat} (h : k < l.length) : ls l k ∈ l := ls_mem h
theorem byteAt_mem {w : ByteArray} {i : Nat} (h : i < w.size) : byteAt w i ∈ w.data.toList := by
  have h' : i < w.data.toList.length := by simpa using h
  have : byteAt w i = w.data.toList[i] := by unfold byteAt; exact (List.getElem_eq_getD _).symm
  rw [this]; exact List.getElem_mem h'
theorem byteAt_of_mem {w : ByteArray} {c : UInt8} (h : c ∈ w.data.toList) : ∃ i, i < w.size ∧ byteAt w i = c := by
  obtain ⟨i, hi, rfl⟩ := List.mem_iff_getElem.1 h
  exact ⟨i, by simpa using hi, by unfold byteAt; exact (List.getElem_eq_getD _).symm⟩
theorem smallS_iff (x : ByteArray) : Elder.smallS x = true ↔ SmallP x := by
  unfold Elder.smallS SmallP
  rw [Bool.and_eq_true, Bool.and_eq_true, decide_eq_true_eq, decide_eq_true_eq, List.all_eq_true, and_assoc]
  refine and_congr Iff.rfl (and_congr Iff.rfl ⟨fun h i hi => ?_, fun h c hc => ?_⟩)
  · have := h _ (byteAt_mem hi)
    simpa [Elder.lowB] using this
  · obtain ⟨i, hi, rfl⟩ := byteAt_of_mem hc
    simpa [Elder.lowB] using h i hi
theorem badSkip_iff (s : SpecD) : (s.skip.any fun x => !Elder.smallS x) = true ↔ BadSkip s := by
  rw [List.any_eq_true]
  constructor
  · rintro ⟨x, hx, hn⟩
    obtain ⟨k, hk, rfl⟩ := ls_of_mem hx
    exact ⟨k, hk, fun h => by rw [(smallS_iff _).2 h] at hn; cases hn⟩
  · rintro ⟨k, hk, hn⟩
    refine ⟨_, ls_in hk, ?_⟩
    cases h : Elder.smallS (ls s.skip k)
    · rfl
    · exact absurd ((smallS_iff _).1 h) hn

/-- The places of the bytes. -/
abbrev pl (s : SpecD) : List Elder.Trip := Elder.plFrom s.order 0
theorem plGroup_iff {g : Nat} {x : Elder.Trip} : ∀ {l : List UInt8} {i : Nat}, x ∈ Elder.plGroup g l i ↔ x.2.1 = g ∧ ∃ j, j < l.length ∧ x.2.2 = i + j ∧ l.getD j 0 = x.1
  | [], i => by simp [Elder.plGroup]
  | c :: l, i => by
    rw [Elder.plGroup, List.mem_cons, plGroup_iff]
    constructor
    · rintro (rfl | ⟨h, j, hj, h1, h2⟩)
      · exact ⟨rfl, 0, by simp, rfl, rfl⟩
      · exact ⟨h, j + 1, by simpa using hj, by omega, by simpa using h2⟩
    · rintro ⟨h, j, hj, h1, h2⟩
      cases j with
      | zero => exact .inl (by obtain ⟨a, b, d⟩ := x; simp at h h1 h2; subst h h1 h2; rfl)
      | succ j => exact .inr ⟨h, j, by simpa using hj, by omega, by simpa using h2⟩
theorem plFrom_iff {x : Elder.Trip} : ∀ {l : List ByteArray} {g : Nat}, x ∈ Elder.plFrom l g ↔ ∃ k, k < l.length ∧ x.2.1 = g + k ∧ x.2.2 < (ls l k).size ∧ byteAt (ls l k) x.2.2 = x.1
  | [], g => by simp [Elder.plFrom]
  | s :: l, g => by
    rw [Elder.plFrom, List.mem_append, plGroup_iff, plFrom_iff]
    constructor
    · rintro (⟨h, j, hj, h1, h2⟩ | ⟨k, hk, h1, h2, h3⟩)
      · have e : x.2.2 = j := by omega
        exact ⟨0, by simp, h, by rw [e]; simpa [ls] using hj, by rw [e]; exact h2⟩
      · exact ⟨k + 1, by simpa using hk, by omega, by simpa [ls] using h2, by simpa [ls] using h3⟩
    · rintro ⟨k, hk, h1, h2, h3⟩
      cases k with
      | zero => exact .inl ⟨h1, x.2.2, by simpa [ls] using h2, by omega, h3⟩
      | succ k => exact .inr ⟨k, by simpa using hk, by omega, by simpa [ls] using h2, by simpa [ls] using h3⟩
theorem pl_iff (s : SpecD) (c : UInt8) (g i : Nat) : (c, g, i) ∈ pl s ↔ AtP s c g i := by
  rw [pl, plFrom_iff]
  constructor
  · rintro ⟨k, hk, h1, h2, h3⟩
    simp only [Nat.zero_add] at h1 h2 h3
    subst h1
    exact ⟨hk, h2, h3⟩
  · rintro ⟨h1, h2, h3⟩
    exact ⟨g, h1, by simp, h2, h3⟩
def Lex (x y : Elder.Trip) : Prop := x.2.1 < y.2.1 ∨ (x.2.1 = y.2.1 ∧ x.2.2 < y.2.2)
theorem plGroup_sorted {g : Nat} : ∀ (l : List UInt8) (i : Nat), (Elder.plGroup g l i).Pairwise Lex
  | [], _ => List.Pairwise.nil
  | c :: l, i => List.pairwise_cons.2 ⟨fun y hy => by
      obtain ⟨h, j, _, h1, _⟩ := plGroup_iff.1 hy
      exact .inr ⟨h.symm, by dsimp only; omega⟩, plGroup_sorted l (i + 1)⟩
theorem plFrom_sorted : ∀ (l : List ByteArray) (g : Nat), (Elder.plFrom l g).Pairwise Lex
  | [], _ => List.Pairwise.nil
  | s :: l, g => List.pairwise_append.2 ⟨plGroup_sorted _ _, plFrom_sorted l (g + 1), fun x hx y hy => by
      obtain ⟨h, _⟩ := plGroup_iff.1 hx
      obtain ⟨k, _, h1, _⟩ := plFrom_iff.1 hy
      exact .inl (by omega)⟩
/-- The first place of a byte. -/
theorem grp_find (s : SpecD) (c : UInt8) : grp s c = match (pl s).find? (fun x => x.1 == c) with | some x => ((x.2.1 : Int), (x.2.2 : Int)) | none => (-1, -1) := by
  cases h : (pl s).find? (fun x => x.1 == c) with
  | none =>
    refine grp_none fun g i hA => ?_
    have := List.find?_eq_none.1 h _ ((pl_iff s c g i).2 hA)
    simp at this
  | some x =>
    obtain ⟨a, g, i⟩ := x
    obtain ⟨hx, p1, p2, hl, hno⟩ := List.find?_eq_some_iff_append.1 h
    have ha : a = c := by simpa using hx
    subst ha
    have hs := plFrom_sorted s.order 0
    show grp s a = ((g : Int), (i : Int))
    refine grp_first ⟨(pl_iff s a g i).1 (by rw [hl]; simp), fun g' i' hA => ?_⟩
    have hm := (pl_iff s a g' i').2 hA
    rw [hl] at hm
    rw [show Elder.plFrom s.order 0 = _ from hl] at hs
    rcases List.mem_append.1 hm with hm | hm
    · have := hno _ hm; simp at this
    · rcases List.mem_cons.1 hm with hm | hm
      · injection hm with _ h2; injection h2 with h2 h3; exact .inr ⟨h2.symm, by omega⟩
      · have := (List.pairwise_cons.1 (List.pairwise_append.1 hs).2.1).1 _ hm
        unfold Lex at this
        dsimp only at this
        omega
theorem bytes_pl : ∀ (l : List ByteArray) (g : Nat), (Elder.plFrom l g).map (·.1) = Elder.bytesOf l
  | [], _ => rfl
  | s :: l, g => by
    have h : ∀ (m : List UInt8) (i : Nat), (Elder.plGroup g m i).map (·.1) = m := by
      intro m
      induction m with
      | nil => intro i; rfl
      | cons c m ih => intro i; rw [Elder.plGroup, List.map_cons, ih]
    rw [Elder.plFrom, List.map_append, h, bytes_pl l (g + 1)]
    simp [Elder.bytesOf]
/-- No byte stands twice: each place is the only one of its byte. -/
def Once (s : SpecD) : Prop := ∀ x, x ∈ pl s → ∀ y, y ∈ pl s → x.1 = y.1 → x = y
theorem nodup_once {α β : Type} (f : α → β) : ∀ (l : List α), (l.map f).Nodup → ∀ x, x ∈ l → ∀ y, y ∈ l → f x = f y → x = y
  | [], _, x, hx, _, _, _ => by simp at hx
  | a :: l, h, x, hx, y, hy, he => by
    rw [List.map_cons, List.nodup_cons] at h
    rcases List.mem_cons.1 hx with e1 | h1
    · rcases List.mem_cons.1 hy with e2 | h2
      · rw [e1, e2]
      · rw [e1] at he
        exact absurd (he ▸ List.mem_map_of_mem h2) h.1
    · rcases List.mem_cons.1 hy with e2 | h2
      · rw [e2] at he
        exact absurd (he ▸ List.mem_map_of_mem h1) h.1
      · exact nodup_once f l h.2 x h1 y h2 he
theorem once_iff (s : SpecD) : (Elder.bytesOf s.order).Nodup ↔ Once s := by
  rw [← bytes_pl s.order 0]
  constructor
  · exact fun h => nodup_once _ _ h
  · intro h
    refine List.pairwise_map.2 ((plFrom_sorted s.order 0).imp_of_mem fun {a b} ha hb hl he => ?_)
    have := h a ha b hb he
    subst this
    unfold Lex at hl
    omega
theorem twice_iff (s : SpecD) : Twice s ↔ ¬ Once s := by
  constructor
  · rintro ⟨g, i, hg, hi, ht⟩ ho
    refine ht ?_
    have hm : (byteAt (ls s.order g) i, g, i) ∈ pl s := (pl_iff _ _ _ _).2 ⟨hg, hi, rfl⟩
    rw [grp_find]
    cases h : (pl s).find? (fun x => x.1 == byteAt (ls s.order g) i) with
    | none => have := List.find?_eq_none.1 h _ hm; simp at this
    | some x =>
      have h1 := List.find?_some h
      have := ho x (List.mem_of_find?_eq_some h) _ hm (by simpa using h1)
      subst this
      exact ⟨rfl, rfl⟩
  · intro h
    refine Classical.byContradiction fun hn => h fun x hx y hy he => ?_
    have key : ∀ z, z ∈ pl s → grp s z.1 = ((z.2.1 : Int), (z.2.2 : Int)) := by
      rintro ⟨c, g, i⟩ hz
      obtain ⟨h1, h2, h3⟩ := (pl_iff _ _ _ _).1 hz
      refine Classical.byContradiction fun hne => hn ⟨g, i, h1, h2, fun hh => hne ?_⟩
      rw [h3] at hh
      exact Prod.ext hh.1 hh.2
    have e1 := key x hx
    have e2 := key y hy
    rw [he, e2] at e1
    injection e1 with e3 e4
    exact Prod.ext he (Prod.ext (by omega) (by omega))
theorem scan_none : ∀ (l seen : List UInt8) (t : Bool), Elder.scanB l seen t = none ↔ ∃ c, c ∈ l ∧ BadByte c
  | [], seen, t => by simp [Elder.scanB]
  | c :: l, seen, t => by
    rw [Elder.scanB]
    have hb : Elder.badB c = true ↔ BadByte c := by unfold Elder.badB BadByte; simp
    split
    · rename_i h
      exact ⟨fun _ => ⟨c, List.mem_cons_self .., hb.1 h⟩, fun _ => rfl⟩
    · rename_i h
      rw [scan_none l]
      constructor
      · rintro ⟨d, hd, hx⟩; exact ⟨d, List.mem_cons_of_mem _ hd, hx⟩
      · rintro ⟨d, hd, hx⟩
        rcases List.mem_cons.1 hd with rfl | hd
        · exact absurd (hb.2 hx) h
        · exact ⟨d, hd, hx⟩
theorem scan_some : ∀ (l seen : List UInt8) (t b : Bool), Elder.scanB l seen t = some b → (b = false ↔ t = false ∧ l.Nodup ∧ ∀ c, c ∈ l → c ∉ seen)
  | [], seen, t, b, h => by simp [Elder.scanB] at h; subst h; simp
  | c :: l, seen, t, b, h => by
    rw [Elder.scanB] at h
    split at h
    · cases h
    · rw [scan_some l _ _ _ h, List.nodup_cons, Bool.or_eq_false_iff]
      constructor
      · rintro ⟨⟨h1, h2⟩, h3, h4⟩
        refine ⟨h1, ⟨fun hc => h4 c hc (List.mem_cons_self ..), h3⟩, fun d hd hs => ?_⟩
        rcases List.mem_cons.1 hd with rfl | hd
        · rw [List.contains_iff_mem.2 hs] at h2; cases h2
        · exact h4 d hd (List.mem_cons_of_mem _ hs)
      · rintro ⟨h1, ⟨h2, h3⟩, h4⟩
        refine ⟨⟨h1, ?_⟩, h3, fun d hd hs => ?_⟩
        · rw [Bool.eq_false_iff]; exact fun hh => h4 c (List.mem_cons_self ..) (List.contains_iff_mem.1 hh)
        · rcases List.mem_cons.1 hs with rfl | hs
          · exact h2 hd
          · exact h4 d (List.mem_cons_of_mem _ hd) hs
theorem badOrder_iff (s : SpecD) : BadOrder s ↔ Lib.containsS s.order ⟨#[]⟩ = true ∨ ∃ c, c ∈ Elder.bytesOf s.order ∧ BadByte c := by
  rw [Lib.containsS_iff]
  constructor
  · rintro ⟨g, hg, h | ⟨i, hi, hb⟩⟩
    · left
      have : ls s.order g = ⟨#[]⟩ := by
        have h2 : (ls s.order g).data = #[] := Array.eq_empty_of_size_eq_zero h
        cases hx : ls s.order g with
        | mk d => rw [hx] at h2; dsimp only at h2; rw [h2]
      rw [← this]; exact ls_in hg
    · right
      exact ⟨_, List.mem_flatMap.2 ⟨_, ls_in hg, byteAt_mem hi⟩, hb⟩
  · rintro (h | ⟨c, hc, hb⟩)
    · obtain ⟨g, hg, e⟩ := ls_of_mem h
      exact ⟨g, hg, .inl (by rw [e]; rfl)⟩
    · obtain ⟨w, hw, hc⟩ := List.mem_flatMap.1 hc
      obtain ⟨g, hg, rfl⟩ := ls_of_mem hw
      obtain ⟨i, hi, rfl⟩ := byteAt_of_mem hc
      exact ⟨g, hg, .inr ⟨i, hi, hb⟩⟩
theorem validD_eq (s : SpecD) : Elder.validD (toE s) = validE s := by
  unfold Elder.validD
  show (if 64 < s.order.length ∨ 16 < s.skip.length then (4 : Int) else _) = _
  split
  · rename_i h; exact (validE_limit h).symm
  · rename_i h
    show (if ((s.skip.any fun x => !Elder.smallS x) || Lib.containsS s.order ⟨#[]⟩) = true then (1 : Int) else Elder.scanErr (Elder.scanB (Elder.bytesOf s.order) [] false)) = _
    have hb := badSkip_iff s
    have ho := badOrder_iff s
    split
    · rename_i h1
      refine (validE_bad h ?_).symm
      rcases (Bool.or_eq_true _ _).mp h1 with h1 | h1
      · exact .inl (hb.1 h1)
      · exact .inr (ho.2 (.inl h1))
    · rename_i h1
      have h2 : ¬ BadSkip s := fun hx => h1 (by rw [hb.2 hx]; rfl)
      have h3 : ¬ Lib.containsS s.order ⟨#[]⟩ = true := fun hx => h1 (by rw [hx, Bool.or_true])
      cases hs : Elder.scanB (Elder.bytesOf s.order) [] false with
      | none => exact (validE_bad h (.inr (ho.2 (.inr ((scan_none _ _ _).1 hs))))).symm
      | some b =>
        have h4 : ¬ (BadSkip s ∨ BadOrder s) := by
          rintro (hx | hx)
          · exact h2 hx
          · rcases ho.1 hx with hx | hx
            · exact h3 hx
            · rw [(scan_none _ _ _).2 hx] at hs; cases hs
        have h5 := scan_some _ _ _ _ hs
        have h6 : b = false ↔ Once s := by rw [h5, once_iff]; simp
        cases b with
        | false => exact (validE_ok h h4 (fun ht => (twice_iff s).1 ht (h6.1 rfl))).symm
        | true => exact (validE_twice h h4 ((twice_iff s).2 fun ho2 => by have := h6.2 ho2; cases this)).symm
theorem valid_once {s : SpecD} (h : validE s = 0) : Once s := Classical.byContradiction fun hn => (validE_zero h).2.2 ((twice_iff s).2 hn)

theorem look_eq {s : SpecD} (h : Once s) (c : UInt8) : Elder.lookT (pl s).reverse c.toNat = (pl s).find? (fun x => x.1 == c) := by
  unfold Elder.lookT
  have hp : ∀ x : Elder.Trip, (x.1.toNat == c.toNat) = (x.1 == c) := fun x => by
    rw [Bool.eq_iff_iff, beq_iff_eq, beq_iff_eq]
    exact ⟨fun e => UInt8.toNat_inj.1 e, fun e => by rw [e]⟩
  simp only [hp]
  cases h1 : (pl s).find? (fun x => x.1 == c) with
  | none =>
    refine List.find?_eq_none.2 fun x hx => ?_
    exact List.find?_eq_none.1 h1 x (List.mem_reverse.1 hx)
  | some x =>
    cases h2 : (pl s).reverse.find? (fun x => x.1 == c) with
    | none =>
      have := List.find?_eq_none.1 h2 x (List.mem_reverse.2 (List.mem_of_find?_eq_some h1))
      have h3 := List.find?_some h1
      exact absurd h3 this
    | some y =>
      have h3 := List.find?_some h1
      have h4 := List.find?_some h2
      rw [h x (List.mem_of_find?_eq_some h1) y (List.mem_reverse.1 (List.mem_of_find?_eq_some h2)) (by rw [beq_iff_eq] at h3 h4; rw [h3, h4])]
theorem grpT_eq {s : SpecD} (h : Once s) (c : UInt8) : Elder.grpT (pl s).reverse c.toNat = (grp s c).1 := by
  unfold Elder.grpT
  rw [look_eq h, grp_find]
  cases (pl s).find? (fun x => x.1 == c) <;> rfl
theorem plcT_eq {s : SpecD} (h : Once s) (c : UInt8) (hg : 0 ≤ (grp s c).1) : Elder.plcT (pl s).reverse c.toNat = (grp s c).2 := by
  unfold Elder.plcT
  rw [grp_find] at hg ⊢
  rw [look_eq h]
  cases hx : (pl s).find? (fun x => x.1 == c) with
  | none => rw [hx] at hg; simp at hg
  | some x => rfl
theorem isDig_same : Elder.isDig = isDig := by
  funext c
  rw [Bool.eq_iff_iff]
  unfold Elder.isDig isDig
  simp
theorem isZero_same : Elder.isZero = zero8 := by
  funext c
  rw [Bool.eq_iff_iff]
  unfold Elder.isZero zero8
  simp
theorem part_eq {s : SpecD} (h : Once s) : ∀ (f : Nat) (l : List UInt8), Elder.partF s.numbers (Elder.grpT (pl s).reverse) (Elder.plcT (pl s).reverse) f l = wordF s f l
  | 0, l => by rw [Elder.partF, wordF]
  | f + 1, [] => by rw [Elder.partF, wordF]
  | f + 1, c :: l => by
    rw [Elder.partF, wordF, isDig_same, isZero_same, part_eq h f, part_eq h f, grpT_eq h]
    by_cases hd : (s.numbers && isDig c) = true
    · rw [if_pos hd, if_pos hd]
      have hl := dropWhile_le zero8 ((c :: l).takeWhile isDig)
      have e1 : (numOf ((c :: l).takeWhile isDig)).length = (((c :: l).takeWhile isDig).dropWhile zero8).length := by unfold numOf; rw [List.length_map]
      have e2 : zerosOf ((c :: l).takeWhile isDig) = (((c :: l).takeWhile isDig).length : Int) - (((c :: l).takeWhile isDig).dropWhile zero8).length := by unfold zerosOf; omega
      rw [e1, e2]
      rfl
    · rw [if_neg hd, if_neg hd]
      by_cases hg : 0 ≤ (grp s c).1
      · rw [if_pos hg, if_pos hg, plcT_eq h c hg]
      · rw [if_neg hg, if_neg hg]
theorem partL_eq {s : SpecD} (h : Once s) (w : ByteArray) : Elder.partL s.numbers (Elder.grpT (pl s).reverse) (Elder.plcT (pl s).reverse) w.data.toList = wordS s w := by
  unfold Elder.partL
  rw [part_eq h]
  unfold wordS
  rw [show w.data.toList.length = w.size by simp]
  rfl
theorem keyWords_eq {s : SpecD} (h : Once s) : ∀ (l : List ByteArray) (fst : Bool), Elder.keyWords s.words s.numbers (Elder.grpT (pl s).reverse) (Elder.plcT (pl s).reverse) (!fst) l = keyL s fst l
  | [], fst => by rw [Elder.keyWords, keyL]
  | w :: l, fst => by
    have ih := keyWords_eq h l false
    rw [Bool.not_false] at ih
    rw [Elder.keyWords, keyL, partL_eq h, ih]
theorem drop_eq (sk : List ByteArray) : ∀ l, Elder.dropSkip sk l = dropSkip sk l
  | [] => rfl
  | [x] => rfl
  | x :: y :: l => by
    have e : Lib.containsS sk (Elder.foldS x) = tB (foldS x ∈ sk) := by rw [Bool.eq_iff_iff, Lib.containsS_iff, tB_iff]; rfl
    rw [Elder.dropSkip, dropSkip, e, drop_eq sk (y :: l)]
theorem keyS_eq {s : SpecD} (h : Once s) (t : ByteArray) : Elder.keyS (toE s) t = keyOf s t := by
  unfold Elder.keyS Elder.keyG keyOf
  have e : Elder.countS (toE s) t = counted s t := drop_eq s.skip _
  rw [e]
  have := keyWords_eq h (counted s t) true
  rw [Bool.not_true] at this
  show (Elder.keyWords s.words s.numbers (Elder.grpT (pl s).reverse) (Elder.plcT (pl s).reverse) false (counted s t)).1 ++ [-1] ++ (Elder.keyWords s.words s.numbers (Elder.grpT (pl s).reverse) (Elder.plcT (pl s).reverse) false (counted s t)).2 = _
  rw [this]
theorem cmpL_eq : ∀ a b, Elder.cmpL a b = lexi a b
  | [], [] => rfl
  | [], _ :: _ => rfl
  | _ :: _, [] => rfl
  | a :: x, b :: y => by rw [Elder.cmpL, lexi, cmpL_eq x y]
theorem exam2_eq (s : SpecD) (a b : ByteArray) : Elder.examS (toE s) [a, b] = cmpE s a b := by
  unfold Elder.examS cmpE keyE
  rw [validD_eq]
  by_cases h : validE s ≠ 0
  · simp [h]
  · by_cases h1 : 4096 < a.size <;> by_cases h2 : 4096 < b.size <;> simp [h, h1, h2, Elder.longS]
theorem eCmp_eq (s : SpecD) (a b : ByteArray) : Elder.cmpE (toE s) a b = cmpR s a b := by
  unfold Elder.cmpE cmpR
  rw [exam2_eq]
  by_cases h : cmpE s a b = 0
  · rw [if_pos h, if_pos h, cmpL_eq]
    unfold cmpE at h
    by_cases ha : keyE s a = 0
    · rw [if_neg (by simpa using ha)] at h
      have hv : validE s = 0 := by
        unfold keyE at ha
        split at ha
        · contradiction
        · rename_i hv; exact Classical.not_not.1 hv
      unfold keyR
      rw [if_pos ha, if_pos h, keyS_eq (valid_once hv), keyS_eq (valid_once hv)]
    · rw [if_pos ha] at h; contradiction
  · rw [if_neg h, if_neg h]
end Go.Proofs.YtfnkciboencifaaDoor
