/-
  Walks: own, texts, specs of the laws about collations.
-/
import Derived.Test.YtfnkciboencifaaDoorKW1
import Derived.Test.YtfnkciboencifaaDoorKW22
import Derived.Test.YtfnkciboencifaaDoorKW21
set_option linter.all false
namespace Go.Proofs.YtfnkciboencifaaDoor
open Go Go.RowKit
set_option linter.unusedSimpArgs false
set_option linter.unusedVariables false
set_option maxRecDepth 20000
set_option maxHeartbeats 400000
theorem leqW23 {p : Prop} (h : p := by (refine ⟨4, ?_, ?_, rfl, by simp, rfl, fun _ h _ => absurd h (Nat.not_lt_zero _)⟩ <;> (simp only [List.forall_mem_cons]; repeat' (first | refine And.intro ?_ ?_ | (intro p hp; exact absurd hp List.not_mem_nil) | rfl | exact sp (pure_madeV _) | exact sp (pure_spec _) | exact (sealed_pure _ _ _ (pure_ints _)).trans (ren_ints _ _).symm | exact (sealed_pure _ _ _ (pure_strs _)).trans (ren_strs _ _).symm | (intro o ho; cases ho; refine ⟨by decide, ?_⟩; first | (refine LeqS.row rfl ?_ ?_; (next => (first | rfl | (simp only [List.map_append, List.map_cons, List.map_nil, List.append_nil, List.nil_append, List.append_assoc, List.cons_append, encI, encS, ints, strs]; done) | (simp [encI, encS, ints, strs]; done))); (next => (first | rfl | exact pureL_encI _ | exact pureL_encS _ | exact pureL_ints _ | exact pureL_strs _ | (simp [pureL_append, pureL_encI, pureL_encS, pureL_ints, pureL_strs, pureL, PV.pure, pure_ints, pure_strs, pure_madeV, pure_spec]; done))); done) | refine ⟨_, rfl, rfl, ?_⟩) | (simp [St.born, St.known, retV, St.get, St.obj, lk, sealed, PV.ren, renL, rmap, AO.ren, ints, strs, encI, encS, map_sealed_encI, map_sealed_encS, map_sealed_ints, map_sealed_strs, map_ren_encI, map_ren_encS, map_ren_ints, map_ren_strs, renL_encI, renL_encS, renL_ints, renL_strs, ren_madeV, sealed_madeV, ren_spec] <;> omega))))) : p := h
theorem lelW23 {p : Prop} (h : p := by (first | rfl | (simp only [List.map_append, List.map_cons, List.map_nil, List.append_nil, List.nil_append, List.append_assoc, List.cons_append, encI, encS, ints, strs]; done) | (simp [encI, encS, ints, strs]; done))) : p := h
theorem lpuW23 {p : Prop} (h : p := by (first | rfl | exact pureL_encI _ | exact pureL_encS _ | exact pureL_ints _ | exact pureL_strs _ | (simp [pureL_append, pureL_encI, pureL_encS, pureL_ints, pureL_strs, pureL, PV.pure, pure_ints, pure_strs, pure_madeV, pure_spec]; done))) : p := h
theorem lsrW23 {p : Prop} (h : p := by (first | rfl | (simp [St.born, St.known, retV, St.get, St.obj, lk, sealed, PV.ren, renL, rmap, AO.ren, ints, strs, encI, encS, map_sealed_encI, map_sealed_encS, map_sealed_ints, map_sealed_strs, map_ren_encI, map_ren_encS, map_ren_ints, map_ren_strs, renL_encI, renL_encS, renL_ints, renL_strs, ren_madeV, sealed_madeV, ren_spec]; done))) : p := h
/-- Bounds of a collation. -/
structure Fit (n : Nat) (s : SpecD) : Prop where
  skip : s.skip.length ≤ n
  order : s.order.length ≤ n
  skips : ∀ x, x ∈ s.skip → x.size ≤ 64
  orders : ∀ x, x ∈ s.order → x.size ≤ 64
theorem Fit.sane {n : Nat} {s : SpecD} (h : Fit n s) (hn : n ≤ 1000) : Sane s :=
  ⟨by have := h.skip; omega, by have := h.order; omega, fun x hx => by have := h.skips x hx; omega, fun x hx => by have := h.orders x hx; omega⟩
theorem sp7_size : ∀ x, x ∈ sp7 → x.size ≤ 64 := by decide
theorem sp8_size : ∀ x, x ∈ sp8 → x.size ≤ 64 := by decide
theorem ordX_size : ∀ i x, x ∈ ordX i → x.size ≤ 64
  | 0, x, h => by simp [ordX] at h
  | i + 1, x, h => by
    rw [ordX] at h
    rcases List.mem_append.1 h with h | h
    · exact ordX_size i x h
    · rw [List.mem_singleton.1 h, oneB_size]; omega
theorem orderN_size (kind : Int) : ∀ i x, x ∈ orderN kind i → x.size ≤ 64
  | 0, x, h => by simp [orderN] at h
  | i + 1, x, h => by
    rw [orderN] at h
    rcases List.mem_append.1 h with h | h
    · exact orderN_size kind i x h
    · split at h
      · rw [List.mem_singleton.1 h, ByteArray.size_append, oneB_size, oneB_size]; omega
      · rcases List.mem_cons.1 h with rfl | h
        · rw [oneB_size]; omega
        · rw [List.mem_singleton.1 h, oneB_size]; omega
theorem dig3_size : ∀ x, x ∈ dig3 → x.size ≤ 64 := by decide
theorem madeSk_fit (k : Int) : (madeSk k).length ≤ 60 ∧ ∀ x, x ∈ madeSk k → x.size ≤ 64 := by
  unfold madeSk
  split
  · exact ⟨by decide, by decide⟩
  · split
    · exact ⟨by decide, by decide⟩
    · split
      · exact ⟨by decide, by decide⟩
      · exact ⟨by decide, by decide⟩
theorem made_fit (l : List Int) : Fit 60 (madeS l) := by
  have ho := orderN_len (atI l 3 4) 26
  have hs := orderN_size (atI l 3 4) 26
  refine ⟨(madeSk_fit _).1, ?_, (madeSk_fit _).2, ?_⟩
  · show (madeO (atI l 3 4) (atI l 4 3)).length ≤ 60
    unfold madeO
    split
    · simp <;> omega
    · split
      · simp [dig3] <;> omega
      · omega
  · show ∀ x, x ∈ madeO (atI l 3 4) (atI l 4 3) → x.size ≤ 64
    unfold madeO
    split
    · intro x hx
      rcases List.mem_cons.1 hx with rfl | hx
      · decide
      · exact hs x hx
    · split
      · intro x hx
        rcases List.mem_append.1 hx with hx | hx
        · exact hs x hx
        · exact dig3_size x hx
      · exact hs
theorem spoilt_fit {n : Nat} {s : SpecD} (h : Fit n s) (how by_ : Int) : Fit (n + 50) (spoiltS s how by_) := by
  have h1 := h.skip
  have h2 := h.order
  have h7 := around_lo (n := by_) (most := 7) (by decide)
  have h7' := around_hi (n := by_) (most := 7) (by decide)
  have h8 := around_lo (n := by_) (most := 8) (by decide)
  have h8' := around_hi (n := by_) (most := 8) (by decide)
  have h36 := around_lo (n := by_) (most := 36) (by decide)
  have h36' := around_hi (n := by_) (most := 36) (by decide)
  unfold spoiltS
  split
  · refine ⟨by simp <;> omega, by simp <;> omega, fun x hx => ?_, h.orders⟩
    rcases List.mem_append.1 hx with hx | hx
    · exact h.skips x hx
    · rw [List.mem_singleton.1 hx]; exact sp7_size _ (ls_mem (by show _ < 7; omega))
  · split
    · refine ⟨by simp <;> omega, by simp <;> omega, h.skips, fun x hx => ?_⟩
      rcases List.mem_append.1 hx with hx | hx
      · exact h.orders x hx
      · rw [List.mem_singleton.1 hx]; exact sp8_size _ (ls_mem (by show _ < 8; omega))
    · split
      · refine ⟨by simp <;> omega, by simp <;> omega, fun x hx => ?_, h.orders⟩
        rcases List.mem_append.1 hx with hx | hx
        · exact h.skips x hx
        · rw [List.eq_of_mem_replicate hx]; decide
      · split
        · refine ⟨by simp <;> omega, by simp [ordX_len] <;> omega, h.skips, fun x hx => ?_⟩
          rcases List.mem_append.1 hx with hx | hx
          · exact h.orders x hx
          · exact ordX_size _ x hx
        · split
          · exact ⟨by simp <;> omega, by simp <;> omega, h.skips, fun x hx => h.orders x (List.mem_of_mem_take hx)⟩
          · split
            · exact ⟨by simp <;> omega, by simp <;> omega, h.skips, h.orders⟩
            · refine ⟨by simp <;> omega, by simp <;> omega, h.skips, fun x hx => ?_⟩
              rcases List.mem_cons.1 hx with rfl | hx
              · rw [oneB_size]; omega
              · rw [List.mem_singleton.1 hx]; decide
theorem own_pure (s : SpecD) : Pure Tryd.prog 14 [encSpec s] (encSpec s) [] := by
  refine Pure.introR (rv := [.cell 2 33]) Tryd.func14 (by kernel_rfl) rfl rfl rfl (Nat.le_of_ble_eq_true rfl) ?_ ?_
  · simp [encB, encS, encSpec, PV.pure, pureL, pure_strs]
  refine sZ [1, 2] (fun P S K => XvBox S.nx (S.get 0) (fun r0 e0 => XvAlloc P 33 (S.nx + e0.add.length) (fun r1 e1 => K ⟨[(1, r0), (2, r1)], (Eff.hp e1 (S.nx + e0.add.length) (Eff.hp e0 S.nx S.hp)), ((S.nx + e0.add.length) + e1.add.length), S.gh⟩))) fun K hK => ?_
  repeat' (first | (refine hK _ ?_; clear hK K) | ((first | refine xG_intro (fun hg => ?_) (fun hg => ?_) | refine fun (hg : (_ : Prop)) => ?_) <;> ((try simp only [BQ] at hg); try (exfalso; omega))) | refine And.intro ?_ ?_ | exact cl | refine one_take ?_ _ | refine one_drop ?_ _ | (refine st ?_; try simp only [encSpec]) | simp only [encSpec])
  all_goals try simp (disch := omega) only [wrap_id, wrap8_id]
  all_goals
   refine sZ [2] (fun P S K => XvFieldAddr P 35 0 (S.get 1) (fun r0 _ => XvLoad P 4 (M S.hp S.nx) r0 (fun r1 _ => XvFieldAddr P 35 1 (S.get 1) (fun r2 _ => XvLoad P 25 (M S.hp S.nx) r2 (fun r3 _ => XvFieldAddr P 35 2 (S.get 1) (fun r4 _ => XvLoad P 4 (M S.hp S.nx) r4 (fun r5 _ => XvFieldAddr P 35 3 (S.get 1) (fun r6 _ => XvLoad P 25 (M S.hp S.nx) r6 (fun r7 _ => XvBuild P 33 [(0, r1), (1, r3), (2, r5), (3, r7)] (fun r8 _ => XvStore P 33 (M S.hp S.nx) (S.get 2) r8 (fun r9 e9 => K ⟨[(2, S.get 2)], (Eff.hp e9 S.nx S.hp), (S.nx + e9.add.length), S.gh⟩))))))))))) fun K hK => ?_
   repeat' (first | (refine hK _ ?_; clear hK K) | ((first | refine xG_intro (fun hg => ?_) (fun hg => ?_) | refine fun (hg : (_ : Prop)) => ?_) <;> ((try simp only [BQ] at hg); try (exfalso; omega))) | refine And.intro ?_ ?_ | exact cl | refine one_take ?_ _ | refine one_drop ?_ _ | (refine st ?_; try simp only [encSpec]) | simp only [encSpec])
   all_goals try simp (disch := omega) only [wrap_id, wrap8_id]
   all_goals
    refine Tri.ret ?_
    show ResR _ _ _ _ _
    exact ResR.cell1 (encSpec s) rfl (sealed_pure _ _ _ (pure_spec _)) (pure_spec _)
def textC (len : Nat) (most : Int) : Nat := min ((len + 4) / 5) most.toNat
def textsN (l : List Int) : Nat → List ByteArray
  | 0 => []
  | i + 1 => textsN l i ++ [textS l (5 * i)]
theorem textsN_len (l : List Int) : ∀ i, (textsN l i).length = i
  | 0 => rfl
  | i + 1 => by rw [textsN, List.length_append, textsN_len l i]; rfl
theorem textsN_size (l : List Int) : ∀ i x, x ∈ textsN l i → x.size ≤ 40
  | 0, x, h => by simp [textsN] at h
  | i + 1, x, h => by
    rw [textsN] at h
    rcases List.mem_append.1 h with h | h
    · exact textsN_size l i x h
    · rw [List.mem_singleton.1 h]; exact textS_size _ _
theorem texts_pure (l : List Int) (most : Int) (hl : Fits l) (h0 : 0 ≤ most) (h1 : most ≤ 1000) : Pure Tryd.prog 10 [ints l, encI most] (.ob 0 1 0 (textC l.length most)) [⟨1, (textsN l (textC l.length most)).map encS⟩] := by
  have hll := hl.2
  refine Pure.intro (ts := [4]) Tryd.func10 (by kernel_rfl) rfl rfl rfl (Nat.le_of_ble_eq_true rfl) ?_ ?_
  · simp [pure_ints, pure_strs, encI, encS, PV.pure, pureL]
  refine sZ [0, 1] (fun P S K => K ⟨[(0, S.get 0), (1, S.get 1)], S.hp, S.nx, S.gh⟩) fun K hK => ?_
  repeat' (first | (refine hK _ ?_; clear hK K) | ((first | refine xG_intro (fun hg => ?_) (fun hg => ?_) | refine fun (hg : (_ : Prop)) => ?_) <;> ((try simp only [BQ] at hg); try (exfalso; omega))) | refine And.intro ?_ ?_ | exact cl | refine one_take ?_ _ | refine one_drop ?_ _ | refine st ?_)
  all_goals try simp (disch := omega) only [wrap_id, wrap8_id]
  all_goals
   refine sZ [0, 1, 5] (fun P S K => K ⟨[(0, S.get 0), (1, S.get 1), (5, (.atom (.slice none 0 0)))], S.hp, S.nx, S.gh⟩) fun K hK => ?_
   repeat' (first | (refine hK _ ?_; clear hK K) | ((first | refine xG_intro (fun hg => ?_) (fun hg => ?_) | refine fun (hg : (_ : Prop)) => ?_) <;> ((try simp only [BQ] at hg); try (exfalso; omega))) | refine And.intro ?_ ?_ | exact cl | refine one_take ?_ _ | refine one_drop ?_ _ | refine st ?_)
   all_goals try simp (disch := omega) only [wrap_id, wrap8_id]
   refine Tri.born 5 1 rfl ?_
   all_goals
    refine Tri.seq ?_
    refine sZ [0, 1, 5, 6] (fun P S K => K ⟨[(0, S.get 0), (1, S.get 1), (5, S.get 5), (6, (.atom (.int .i64 0)))], S.hp, S.nx, S.gh⟩) fun K hK => ?_
    repeat' (first | (refine hK _ ?_; clear hK K) | ((first | refine xG_intro (fun hg => ?_) (fun hg => ?_) | refine fun (hg : (_ : Prop)) => ?_) <;> ((try simp only [BQ] at hg); try (exfalso; omega))) | refine And.intro ?_ ?_ | exact cl | refine one_take ?_ _ | refine one_drop ?_ _ | refine st ?_)
    all_goals try simp (disch := omega) only [wrap_id, wrap8_id]
    all_goals
     refine Tri.block ?_
     refine Tri.loop (α := (i : Nat) ×' (i ≤ textC l.length most)) (fun z => (fun (i : Nat) => (⟨[(0, ints l), (1, encI most), (5, .ob 0 1 0 i), (6, encI i)], [(0, some ⟨1, (textsN l i).map encS⟩)], 1, []⟩ : St)) z.1) (fun z => (fun (i : Nat) => 1000 - i) z.1) ⟨0, Nat.zero_le _⟩ [0] ?_ ?_
     · exact leqW23
     · rintro ⟨i, hi⟩
       have hi2 := hi
       unfold textC at hi2
       have hw5 : IntKind.i64.wrap (5 * (i : Int)) = 5 * i := wrap_id (by omega) (by omega)
       have htl := textsN_len l i
       refine Tri.seq ?_
       refine sZ [0, 1, 5, 6, 16] (fun P S K => XvBinOV P .mul 3 (.tmp 7) (.atom (.int .i64 5)) (S.get 6) (fun r1 _ => XvLen P 22 (S.get 0) (fun r3 _ => XvBinOV P .lss 3 (.tmp 10) r1 r3 (fun r4 _ => Xgq r4 true (fun k => k (S.get 6)) (fun g6 r6 => Xgq g6 true (fun k => k (S.get 1)) (fun g7 r7 => Xgq g7 true (fun k => XvBinOV P .lss 3 (.tmp 14) r6 r7 (fun r8 _ => k r8)) (fun g8 r8 => XvPick g8 r8 (.atom (.bool false)) (fun r9 _ => K ⟨[(0, S.get 0), (1, S.get 1), (5, S.get 5), (6, S.get 6), (16, r9)], S.hp, S.nx, S.gh⟩)))))))) fun K hK => ?_
       repeat' (first | (refine hK _ ?_; clear hK K) | ((first | refine xG_intro (fun hg => ?_) (fun hg => ?_) | refine fun (hg : (_ : Prop)) => ?_) <;> ((try simp only [BQ] at hg); try (exfalso; omega))) | refine And.intro ?_ ?_ | exact cl | refine one_take ?_ _ | refine one_drop ?_ _ | (refine st ?_; try simp only [hw5]) | simp only [hw5])
       all_goals try simp (disch := omega) only [wrap_id, wrap8_id]
       all_goals
        refine Tri.cond rfl (fun h16 => ?_) (fun h16 => ?_)
        · try (cases h16; done)
          all_goals (try simp only [CQ] at h16)
          all_goals
           refine Tri.skip ?_
           refine Tri.seq ?_
           refine Tri.block ?_
           refine rZ [0, 1, 5, 6] (fun P S K => XvBinOV P .mul 3 (.tmp 21) (.atom (.int .i64 5)) (S.get 6) (fun r3 _ => XvFnIV P (M S.hp S.nx) (.fn 34 []) [(S.get 0), r3] (fun r4 e4 => XvBuildS P 25 1 (S.nx + e4.add.length) [(0, r4)] (fun r5 e5 => (25 = 25 ∧ XvAppend P 25 (M (Eff.hp e5 (S.nx + e4.add.length) (Eff.hp e4 S.nx S.hp)) ((S.nx + e4.add.length) + e5.add.length)) (S.get 5) r5 (fun r6 e6 => K ⟨[(0, S.get 0), (1, S.get 1), (5, r6), (6, S.get 6)], (Eff.hp e6 ((S.nx + e4.add.length) + e5.add.length) (Eff.hp e5 (S.nx + e4.add.length) (Eff.hp e4 S.nx S.hp))), (((S.nx + e4.add.length) + e5.add.length) + e6.add.length), S.gh⟩)))))) fun K hK => ?_
           repeat' (first | (refine hK _ ?_; clear hK K) | ((first | refine xG_intro (fun hg => ?_) (fun hg => ?_) | refine fun (hg : (_ : Prop)) => ?_) <;> ((try simp only [BQ] at hg); try (exfalso; omega))) | refine And.intro ?_ ?_ | exact cl | refine one_take ?_ _ | refine one_drop ?_ _ | refine .inl ⟨_, _, Text_pure l (5 * i) hl (by omega) (by omega), ?_⟩ | refine ⟨_, _, Text_pure l (5 * i) hl (by omega) (by omega), ?_⟩ | (refine st ?_; try simp only [hw5, textsN_len]) | simp only [hw5, textsN_len])
           all_goals try simp (disch := omega) only [wrap_id, wrap8_id]
           all_goals
            refine rZ [0, 1, 5, 6] (fun P S K => XvBinOV P .add 3 (.const (.int .i64 1)) (S.get 6) (.atom (.int .i64 1)) (fun r1 _ => K ⟨[(0, S.get 0), (1, S.get 1), (5, S.get 5), (6, r1)], S.hp, S.nx, S.gh⟩)) fun K hK => ?_
            repeat' (first | (refine hK _ ?_; clear hK K) | ((first | refine xG_intro (fun hg => ?_) (fun hg => ?_) | refine fun (hg : (_ : Prop)) => ?_) <;> ((try simp only [BQ] at hg); try (exfalso; omega))) | refine And.intro ?_ ?_ | exact cl | refine one_take ?_ _ | refine one_drop ?_ _ | refine st ?_)
            all_goals try simp (disch := omega) only [wrap_id, wrap8_id]
            all_goals
             refine ⟨⟨i + 1, by unfold textC; omega⟩, [2], by dsimp only; omega, ?_⟩
             dsimp only
             rw [textsN]
             exact leqW23
        · try (cases h16; done)
          all_goals (try simp only [CQ] at h16)
          all_goals
           refine Tri.exit ?_
           refine sZ [4] (fun P S K => K ⟨[(4, (S.get 5))], S.hp, S.nx, S.gh⟩) fun K hK => ?_
           repeat' (first | (refine hK _ ?_; clear hK K) | ((first | refine xG_intro (fun hg => ?_) (fun hg => ?_) | refine fun (hg : (_ : Prop)) => ?_) <;> ((try simp only [BQ] at hg); try (exfalso; omega))) | refine And.intro ?_ ?_ | exact cl | refine one_take ?_ _ | refine one_drop ?_ _ | refine st ?_)
           all_goals try simp (disch := omega) only [wrap_id, wrap8_id]
           all_goals
            refine Tri.ret ?_
            show ResOk _ _ _ _
            have hfin : textC l.length most = i := by unfold textC; omega
            rw [hfin]
            exact ResOk.row 0 rfl lelW23 lpuW23 lsrW23
theorem noOb_madeV (k : Int) : (madeV k).noOb = true := by unfold madeV; split <;> rfl
def zeroS : SpecD := ⟨false, [], false, []⟩
def zeroP : PV := .agg [.atom (.bool false), .atom (.slice none 0 0), .atom (.bool false), .atom (.slice none 0 0)]
theorem zero_spec : IsSpec zeroS zeroP := ⟨_, _, rfl, .inr ⟨rfl, rfl⟩, .inr ⟨rfl, rfl⟩⟩
def specsL (l : List Int) (how by_ : Int) : List PV := [madeP l, encSpec (spoiltS (madeS l) how by_), encSpec (spoiltS (spoiltS (madeS l) how by_) by_ how), zeroP]
theorem specsL_len (l : List Int) (how by_ : Int) : (specsL l how by_).length = 4 := rfl
theorem specsL_pure (l : List Int) (how by_ : Int) : pureL (specsL l how by_) = true := by simp [specsL, pureL, pure_spec, madeP, zeroP, PV.pure, pure_madeV, pure_strs]
theorem specsL_is (l : List Int) (how by_ : Int) {i : Nat} (hi : i < 4) : ∃ s, Fit 1000 s ∧ IsSpec s ((specsL l how by_).getD i .junk) := by
  have up : ∀ {n : Nat} {s : SpecD}, Fit n s → n ≤ 1000 → Fit 1000 s := fun h hn => ⟨Nat.le_trans h.skip hn, Nat.le_trans h.order hn, h.skips, h.orders⟩
  match i, hi with
  | 0, _ => exact ⟨_, up (made_fit l) (by decide), made_spec l⟩
  | 1, _ => exact ⟨_, up (spoilt_fit (made_fit l) how by_) (by decide), .self _⟩
  | 2, _ => exact ⟨_, up (spoilt_fit (spoilt_fit (made_fit l) how by_) by_ how) (by decide), .self _⟩
  | 3, _ => exact ⟨zeroS, ⟨by decide, by decide, by decide, by decide⟩, zero_spec⟩
theorem specs_pure (l : List Int) (how by_ : Int) (hl : Fits l) (hh : I64 how) (hb : I64 by_) : Pure Tryd.prog 9 [ints l, encI how, encI by_] (.sl 4 (specsL l how by_)) [] := by
  have hf1 := made_fit l
  have hf2 := spoilt_fit hf1 how by_
  refine Pure.intro (ts := [6]) Tryd.func9 (by kernel_rfl) rfl rfl rfl (Nat.le_of_ble_eq_true rfl) ?_ ?_
  · simp [pure_ints, pure_strs, encI, encS, PV.pure, pureL]
  refine sZ [0, 1, 2] (fun P S K => K ⟨[(0, S.get 0), (1, S.get 1), (2, S.get 2)], S.hp, S.nx, S.gh⟩) fun K hK => ?_
  repeat' (first | (refine hK _ ?_; clear hK K) | ((first | refine xG_intro (fun hg => ?_) (fun hg => ?_) | refine fun (hg : (_ : Prop)) => ?_) <;> ((try simp only [BQ] at hg); try (exfalso; omega))) | refine And.intro ?_ ?_ | exact cl | exact one_madeV _ | refine one_take ?_ _ | refine one_drop ?_ _ | (refine st ?_; try simp only [encSpec, madeP, ren_madeV, sealed_madeV, noOb_madeV]) | simp only [encSpec, madeP, ren_madeV, sealed_madeV, noOb_madeV])
  all_goals try simp (disch := omega) only [wrap_id, wrap8_id]
  all_goals
   refine sZ [1, 2, 7] (fun P S K => XvFnIV P (M S.hp S.nx) (.fn 33 []) [(S.get 0)] (fun r1 e1 => XvAlloc P 35 (S.nx + e1.add.length) (fun r2 e2 => XvStore P 35 (M (Eff.hp e2 (S.nx + e1.add.length) (Eff.hp e1 S.nx S.hp)) ((S.nx + e1.add.length) + e2.add.length)) r2 r1 (fun r3 e3 => K ⟨[(1, S.get 1), (2, S.get 2), (7, r2)], (Eff.hp e3 ((S.nx + e1.add.length) + e2.add.length) (Eff.hp e2 (S.nx + e1.add.length) (Eff.hp e1 S.nx S.hp))), (((S.nx + e1.add.length) + e2.add.length) + e3.add.length), S.gh⟩)))) fun K hK => ?_
   repeat' (first | (refine hK _ ?_; clear hK K) | ((first | refine xG_intro (fun hg => ?_) (fun hg => ?_) | refine fun (hg : (_ : Prop)) => ?_) <;> ((try simp only [BQ] at hg); try (exfalso; omega))) | refine And.intro ?_ ?_ | exact cl | exact one_madeV _ | refine one_take ?_ _ | refine one_drop ?_ _ | refine .inl ⟨_, _, Made_pure l hl, ?_⟩ | refine ⟨_, _, Made_pure l hl, ?_⟩ | refine .inl ⟨_, _, (Spoilt_pure (madeS l) how by_ (hf1.sane (by decide)) hh hb).spec (made_spec l), ?_⟩ | refine ⟨_, _, (Spoilt_pure (madeS l) how by_ (hf1.sane (by decide)) hh hb).spec (made_spec l), ?_⟩ | refine .inl ⟨_, _, Spoilt_pure (spoiltS (madeS l) how by_) by_ how (hf2.sane (by decide)) hb hh, ?_⟩ | refine ⟨_, _, Spoilt_pure (spoiltS (madeS l) how by_) by_ how (hf2.sane (by decide)) hb hh, ?_⟩ | (refine st ?_; try simp only [encSpec, madeP, ren_madeV, sealed_madeV, noOb_madeV]) | simp only [encSpec, madeP, ren_madeV, sealed_madeV, noOb_madeV])
   all_goals try simp (disch := omega) only [wrap_id, wrap8_id]
   all_goals
    refine sZ [1, 2, 7, 8] (fun P S K => XvLoad P 35 (M S.hp S.nx) (S.get 7) (fun r0 _ => XvFnIV P (M S.hp S.nx) (.fn 38 []) [r0, (S.get 1), (S.get 2)] (fun r3 e3 => XvAlloc P 35 (S.nx + e3.add.length) (fun r4 e4 => XvStore P 35 (M (Eff.hp e4 (S.nx + e3.add.length) (Eff.hp e3 S.nx S.hp)) ((S.nx + e3.add.length) + e4.add.length)) r4 r3 (fun r5 e5 => K ⟨[(1, S.get 1), (2, S.get 2), (7, S.get 7), (8, r4)], (Eff.hp e5 ((S.nx + e3.add.length) + e4.add.length) (Eff.hp e4 (S.nx + e3.add.length) (Eff.hp e3 S.nx S.hp))), (((S.nx + e3.add.length) + e4.add.length) + e5.add.length), S.gh⟩))))) fun K hK => ?_
    repeat' (first | (refine hK _ ?_; clear hK K) | ((first | refine xG_intro (fun hg => ?_) (fun hg => ?_) | refine fun (hg : (_ : Prop)) => ?_) <;> ((try simp only [BQ] at hg); try (exfalso; omega))) | refine And.intro ?_ ?_ | exact cl | exact one_madeV _ | refine one_take ?_ _ | refine one_drop ?_ _ | refine .inl ⟨_, _, Made_pure l hl, ?_⟩ | refine ⟨_, _, Made_pure l hl, ?_⟩ | refine .inl ⟨_, _, (Spoilt_pure (madeS l) how by_ (hf1.sane (by decide)) hh hb).spec (made_spec l), ?_⟩ | refine ⟨_, _, (Spoilt_pure (madeS l) how by_ (hf1.sane (by decide)) hh hb).spec (made_spec l), ?_⟩ | refine .inl ⟨_, _, Spoilt_pure (spoiltS (madeS l) how by_) by_ how (hf2.sane (by decide)) hb hh, ?_⟩ | refine ⟨_, _, Spoilt_pure (spoiltS (madeS l) how by_) by_ how (hf2.sane (by decide)) hb hh, ?_⟩ | (refine st ?_; try simp only [encSpec, madeP, ren_madeV, sealed_madeV, noOb_madeV]) | simp only [encSpec, madeP, ren_madeV, sealed_madeV, noOb_madeV])
    all_goals try simp (disch := omega) only [wrap_id, wrap8_id]
    all_goals
     refine sD 9 [6] (fun P GD S K => XvLoad P 35 (M S.hp S.nx) (S.get 7) (fun r0 e0 => XvLoad P 35 (M S.hp S.nx) (S.get 8) (fun r1 e1 => XvLoad P 35 (M S.hp S.nx) (S.get 8) (fun r2 e2 => XvFnV P (M S.hp S.nx) (.fn 38 []) [r2, (S.get 2), (S.get 1)] (fun r5 e5 => XvBuild P 35 [] (fun r6 e6 => XvBuildS P 23 4 (S.nx + e5.add.length) [(0, r0), (1, r1), (2, r5), (3, r6)] (fun r7 e7 => (trOk S.nx GD [⟨S.nx, 0, e0.rd, [], []⟩, ⟨S.nx, 0, e1.rd, [], []⟩, ⟨S.nx, 0, e2.rd, [], []⟩, ⟨S.nx, 0, [], [], []⟩, ⟨S.nx, 0, [], [], []⟩, (Eff.tr e5 S.nx), ⟨(S.nx + e5.add.length), 0, e6.rd, [], []⟩, (Eff.tr e7 (S.nx + e5.add.length)), ⟨((S.nx + e5.add.length) + e7.add.length), 0, [], [], []⟩] = true ∧ K ⟨[(6, r7)], (Eff.hp e7 (S.nx + e5.add.length) (Eff.hp e5 S.nx S.hp)), ((S.nx + e5.add.length) + e7.add.length), S.gh⟩)))))))) fun K hK => ?_
     repeat' (first | (refine hK _ ?_; clear hK K) | (refine (?_ : trOk _ _ _ = true); kernel_rfl) | ((first | refine xG_intro (fun hg => ?_) (fun hg => ?_) | refine fun (hg : (_ : Prop)) => ?_) <;> ((try simp only [BQ] at hg); try (exfalso; omega))) | refine And.intro ?_ ?_ | exact cl | exact one_madeV _ | refine one_take ?_ _ | refine one_drop ?_ _ | refine .inl ⟨_, _, Made_pure l hl, ?_⟩ | refine ⟨_, _, Made_pure l hl, ?_⟩ | refine .inl ⟨_, _, (Spoilt_pure (madeS l) how by_ (hf1.sane (by decide)) hh hb).spec (made_spec l), ?_⟩ | refine ⟨_, _, (Spoilt_pure (madeS l) how by_ (hf1.sane (by decide)) hh hb).spec (made_spec l), ?_⟩ | refine .inl ⟨_, _, Spoilt_pure (spoiltS (madeS l) how by_) by_ how (hf2.sane (by decide)) hb hh, ?_⟩ | refine ⟨_, _, Spoilt_pure (spoiltS (madeS l) how by_) by_ how (hf2.sane (by decide)) hb hh, ?_⟩ | (refine st ?_; try simp only [encSpec, madeP, ren_madeV, sealed_madeV, noOb_madeV]) | simp only [encSpec, madeP, ren_madeV, sealed_madeV, noOb_madeV])
     all_goals try simp (disch := omega) only [wrap_id, wrap8_id]
     all_goals
      refine Tri.ret ?_
      show ResOk _ _ _ _
      exact ResOk.frz 5 (seal_row rfl rfl rfl (specsL_pure l how by_)) (specsL_pure l how by_)
end Go.Proofs.YtfnkciboencifaaDoor
set_option linter.all false
namespace Go.Proofs.YtfnkciboencifaaDoor
open Go Go.RowKit
set_option linter.unusedSimpArgs false
set_option linter.unusedVariables false
set_option maxRecDepth 20000
set_option maxHeartbeats 400000
/-- A text of zero bytes. -/
def zeroB (k : Nat) : ByteArray := ⟨(List.map pvByte (List.replicate k (.atom (.int .u8 0)))).toArray⟩
theorem zeroB_size (k : Nat) : (zeroB k).size = k := by show (List.toArray _).size = k; simp
theorem rep_byte (k : Nat) : (List.replicate k (PV.atom (.int .u8 0))).all isByte = true := by simp [isByte]
theorem short_size (s : ByteArray) (n : Nat) : (s.extract 0 (min s.size n)).size ≤ n := by rw [ByteArray.size_extract]; omega
abbrev PureL := {L : List PV // pureL L = true}
theorem pure_slP (L : PureL) : (PV.sl 4 L.1).pure = true := L.2
theorem renL_of {L : List PV} (h : pureL L = true) (ρ : Nat → Nat) : renL ρ L = L := by
  have := ren_pure ρ (.sl 4 L) h
  rw [PV.ren] at this
  injection this
theorem renL_PL (ρ : Nat → Nat) (L : PureL) : renL ρ L.1 = L.1 := renL_of L.2 ρ
theorem renL_specsL (ρ : Nat → Nat) (l : List Int) (how by_ : Int) : renL ρ (specsL l how by_) = specsL l how by_ := renL_of (specsL_pure l how by_) ρ
theorem AsSl.reach {sz : Nat} {l : List PV} {x : PV} (h : AsSl sz l x) (H : Nat → Option AO) (n : Nat) : reach H n x = [] := by
  cases n with
  | zero => rfl
  | succ n => rcases h with rfl | ⟨_, rfl⟩ <;> rfl
end Go.Proofs.YtfnkciboencifaaDoor
set_option linter.all false
namespace Go.Proofs.YtfnkciboencifaaDoor
open Go Go.RowKit
set_option linter.unusedSimpArgs false
set_option linter.unusedVariables false
set_option maxRecDepth 20000
set_option maxHeartbeats 400000
theorem leqW25 {p : Prop} (h : p := by (refine ⟨4, ?_, ?_, rfl, by simp, rfl, fun _ h _ => absurd h (Nat.not_lt_zero _)⟩ <;> (simp only [List.forall_mem_cons]; repeat' (first | refine And.intro ?_ ?_ | (intro p hp; exact absurd hp List.not_mem_nil) | rfl | exact sp (pure_slP _) | exact (sealed_pure _ _ _ (pure_ints _)).trans (ren_ints _ _).symm | exact (sealed_pure _ _ _ (pure_strs _)).trans (ren_strs _ _).symm | (intro o ho; cases ho; refine ⟨by decide, ?_⟩; first | (refine LeqS.row rfl ?_ ?_; (next => (first | rfl | (simp only [List.map_append, List.map_cons, List.map_nil, List.append_nil, List.nil_append, List.append_assoc, List.cons_append, encI, encS, ints, strs]; done) | (simp [encI, encS, ints, strs, cmpsB]; done))); (next => (first | rfl | exact pureL_encI _ | exact pureL_encS _ | exact pureL_ints _ | exact pureL_strs _ | (simp [pureL_append, pureL_encI, pureL_encS, pureL_ints, pureL_strs, pureL, PV.pure, pure_ints, pure_strs, pure_slP]; done))); done) | refine ⟨_, rfl, rfl, ?_⟩) | (simp [St.born, St.known, retV, St.get, St.obj, lk, sealed, PV.ren, renL, rmap, AO.ren, ints, strs, encI, encS, map_sealed_encI, map_sealed_encS, map_sealed_ints, map_sealed_strs, map_ren_encI, map_ren_encS, map_ren_ints, map_ren_strs, renL_encI, renL_encS, renL_ints, renL_strs, renL_PL, renL_specsL] <;> omega))))) : p := h
theorem lsrW25 {p : Prop} (h : p := by (first | rfl | (simp [St.born, St.known, retV, St.get, St.obj, lk, sealed, PV.ren, renL, rmap, AO.ren, ints, strs, encI, encS, map_sealed_encI, map_sealed_encS, map_sealed_ints, map_sealed_strs, map_ren_encI, map_ren_encS, map_ren_ints, map_ren_strs, renL_encI, renL_encS, renL_ints, renL_strs, renL_PL, renL_specsL]; done))) : p := h
theorem lpvW25 {p : Prop} (h : p := by (first | rfl | (simp [pure_ints, pure_strs, PV.pure, pureL, pureL_encI, pureL_encS, pureL_ints, pureL_strs, pure_slP]; done))) : p := h
def bigR (x : PV) : List PV := List.replicate 4097 x
theorem rep4097 (x : PV) : List.replicate (Int.toNat 4097) x = bigR x := rfl
theorem bigR_len (x : PV) : (bigR x).length = 4097 := by unfold bigR; exact List.length_replicate
theorem bigR_byte : (bigR (PV.atom (.int .u8 0))).all isByte = true := rep_byte 4097
theorem bigR_eq : (⟨(List.map pvByte (bigR (.atom (.int .u8 0)))).toArray⟩ : ByteArray) = zeroB 4097 := rfl
def cmpsB (m : List Int) (raw more : ByteArray) : List ByteArray := textsN m (textC m.length 5) ++ [raw.extract 0 (min raw.size 100), more.extract 0 (min more.size 100), zeroB 4097]
theorem cmpsB_len (m : List Int) (raw more : ByteArray) : (cmpsB m raw more).length = textC m.length 5 + 3 := by simp [cmpsB, textsN_len]
theorem cmpsB_size (m : List Int) (raw more : ByteArray) : ∀ x, x ∈ cmpsB m raw more → x.size ≤ 5000 := by
  intro x hx
  rcases List.mem_append.1 hx with hx | hx
  · have := textsN_size m _ x hx; omega
  · rcases List.mem_cons.1 hx with rfl | hx
    · have := short_size raw 100; omega
    · rcases List.mem_cons.1 hx with rfl | hx
      · have := short_size more 100; omega
      · rw [List.mem_singleton.1 hx, zeroB_size]; omega
theorem compares_pure (l : List Int) (how by_ : Int) (m : List Int) (raw more : ByteArray) (hl : Fits l) (hh : I64 how) (hb : I64 by_) (hm : Fits m) : Pure Tryd.prog 4 [ints l, encI how, encI by_, ints m, encS raw, encS more] (.atom (.bool true)) [] := by
  have htc : textC m.length 5 ≤ 5 := by unfold textC; omega
  refine Pure.intro (ts := [12]) Tryd.func4 (by kernel_rfl) rfl rfl rfl (Nat.le_of_ble_eq_true rfl) ?_ ?_
  · simp [pure_ints, pure_strs, encI, encS, PV.pure, pureL]
  refine sZ [0, 1, 2, 3, 4, 5] (fun P S K => K ⟨[(0, S.get 0), (1, S.get 1), (2, S.get 2), (3, S.get 3), (4, S.get 4), (5, S.get 5)], S.hp, S.nx, S.gh⟩) fun K hK => ?_
  repeat' (first | (refine hK _ ?_; clear hK K) | ((first | refine xG_intro (fun hg => ?_) (fun hg => ?_) | refine fun (hg : (_ : Prop)) => ?_) <;> ((try simp only [BQ] at hg); try (exfalso; omega))) | refine And.intro ?_ ?_ | exact cl | exact bigR_byte | refine one_take ?_ _ | refine one_drop ?_ _ | (refine st ?_; try simp only [renL_PL, renL_specsL, encSpec, ↓rep4097, bigR_len, bigR_eq, zeroB_size, dec_self, beq_self_eq_true]) | simp only [renL_PL, renL_specsL, encSpec, ↓rep4097, bigR_len, bigR_eq, zeroB_size, dec_self, beq_self_eq_true])
  all_goals try simp (disch := omega) only [wrap_id, wrap8_id]
  all_goals
   refine sZ [3, 4, 5, 13] (fun P S K => XvFnIV P (M S.hp S.nx) (.fn 9 []) [(S.get 0), (S.get 1), (S.get 2)] (fun r3 e3 => K ⟨[(3, S.get 3), (4, S.get 4), (5, S.get 5), (13, r3)], (Eff.hp e3 S.nx S.hp), (S.nx + e3.add.length), S.gh⟩)) fun K hK => ?_
   repeat' (first | (refine hK _ ?_; clear hK K) | ((first | refine xG_intro (fun hg => ?_) (fun hg => ?_) | refine fun (hg : (_ : Prop)) => ?_) <;> ((try simp only [BQ] at hg); try (exfalso; omega))) | refine And.intro ?_ ?_ | exact cl | exact bigR_byte | refine one_take ?_ _ | refine one_drop ?_ _ | refine .inl ⟨_, _, specs_pure l how by_ hl hh hb, ?_⟩ | refine ⟨_, _, specs_pure l how by_ hl hh hb, ?_⟩ | refine .inl ⟨_, _, texts_pure m 5 hm (by decide) (by decide), ?_⟩ | refine ⟨_, _, texts_pure m 5 hm (by decide) (by decide), ?_⟩ | refine .inl ⟨_, _, Short_pure raw 100 (by decide), ?_⟩ | refine ⟨_, _, Short_pure raw 100 (by decide), ?_⟩ | refine .inl ⟨_, _, Short_pure more 100 (by decide), ?_⟩ | refine ⟨_, _, Short_pure more 100 (by decide), ?_⟩ | refine .inl ⟨_, _, (own_pure sp).spec hsp, ?_⟩ | refine ⟨_, _, (own_pure sp).spec hsp, ?_⟩ | refine .inl ⟨_, _, cCompare_pure sp (ls B k) (ls B j) htame hsz1 hsj1, ?_⟩ | refine ⟨_, _, cCompare_pure sp (ls B k) (ls B j) htame hsz1 hsj1, ?_⟩ | refine .inl ⟨_, _, (rCompare_pure sp (ls B k) (ls B j) hsane hsz2 hsj2).spec hsp, ?_⟩ | refine ⟨_, _, (rCompare_pure sp (ls B k) (ls B j) hsane hsz2 hsj2).spec hsp, ?_⟩ | refine .inl ⟨_, _, lives_pure, ?_⟩ | refine ⟨_, _, lives_pure, ?_⟩ | (refine st ?_; try simp only [renL_PL, renL_specsL, encSpec, ↓rep4097, bigR_len, bigR_eq, zeroB_size, dec_self, beq_self_eq_true]) | simp only [renL_PL, renL_specsL, encSpec, ↓rep4097, bigR_len, bigR_eq, zeroB_size, dec_self, beq_self_eq_true])
   all_goals try simp (disch := omega) only [wrap_id, wrap8_id]
   have hlen0 := specsL_len l how by_
   have his0 : ∀ i, i < 4 → ∃ s, Fit 1000 s ∧ IsSpec s ((specsL l how by_).getD i .junk) := fun i hi => specsL_is l how by_ hi
   obtain ⟨LP, hLP⟩ : ∃ LP : PureL, LP.1 = specsL l how by_ := ⟨⟨_, specsL_pure l how by_⟩, rfl⟩
   rw [← hLP] at hlen0 his0 ⊢
   have hlen : LP.1.length = 4 := hlen0
   have his := his0
   all_goals
    refine Tri.cut (α := Unit) (fun ⟨⟩ => ⟨[(13, .sl 4 LP.1), (14, .ob 0 1 0 (cmpsB m raw more).length)], [(0, some ⟨1, (cmpsB m raw more).map encS⟩)], 1, []⟩) ?_ ?_
    ·
      refine rD 11 [13, 14] (fun P GD S K => XvFnV P (M S.hp S.nx) (.fn 10 []) [(S.get 3), (.atom (.int .i64 5))] (fun r1 e1 => XvFnV P (M (Eff.hp e1 S.nx S.hp) (S.nx + e1.add.length)) (.fn 11 []) [(S.get 4), (.atom (.int .i64 100))] (fun r3 e3 => XvFnV P (M (Eff.hp e3 (S.nx + e1.add.length) (Eff.hp e1 S.nx S.hp)) ((S.nx + e1.add.length) + e3.add.length)) (.fn 11 []) [(S.get 5), (.atom (.int .i64 100))] (fun r5 e5 => XvMake P 28 (M (Eff.hp e5 ((S.nx + e1.add.length) + e3.add.length) (Eff.hp e3 (S.nx + e1.add.length) (Eff.hp e1 S.nx S.hp))) (((S.nx + e1.add.length) + e3.add.length) + e5.add.length)) (.atom (.int .i64 4097)) (.atom (.int .i64 4097)) (fun r6 e6 => XvConvert P 28 9 (M (Eff.hp e6 (((S.nx + e1.add.length) + e3.add.length) + e5.add.length) (Eff.hp e5 ((S.nx + e1.add.length) + e3.add.length) (Eff.hp e3 (S.nx + e1.add.length) (Eff.hp e1 S.nx S.hp)))) ((((S.nx + e1.add.length) + e3.add.length) + e5.add.length) + e6.add.length)) r6 (fun r7 e7 => XvBuildS P 25 3 (((((S.nx + e1.add.length) + e3.add.length) + e5.add.length) + e6.add.length) + e7.add.length) [(0, r3), (1, r5), (2, r7)] (fun r8 e8 => (25 = 25 ∧ XvAppend P 25 (M (Eff.hp e8 (((((S.nx + e1.add.length) + e3.add.length) + e5.add.length) + e6.add.length) + e7.add.length) (Eff.hp e7 ((((S.nx + e1.add.length) + e3.add.length) + e5.add.length) + e6.add.length) (Eff.hp e6 (((S.nx + e1.add.length) + e3.add.length) + e5.add.length) (Eff.hp e5 ((S.nx + e1.add.length) + e3.add.length) (Eff.hp e3 (S.nx + e1.add.length) (Eff.hp e1 S.nx S.hp)))))) ((((((S.nx + e1.add.length) + e3.add.length) + e5.add.length) + e6.add.length) + e7.add.length) + e8.add.length)) r1 r8 (fun r9 e9 => (trOk S.nx GD [⟨S.nx, 0, [], [], []⟩, (Eff.tr e1 S.nx), ⟨(S.nx + e1.add.length), 0, [], [], []⟩, (Eff.tr e3 (S.nx + e1.add.length)), ⟨((S.nx + e1.add.length) + e3.add.length), 0, [], [], []⟩, (Eff.tr e5 ((S.nx + e1.add.length) + e3.add.length)), (Eff.tr e6 (((S.nx + e1.add.length) + e3.add.length) + e5.add.length)), (Eff.tr e7 ((((S.nx + e1.add.length) + e3.add.length) + e5.add.length) + e6.add.length)), (Eff.tr e8 (((((S.nx + e1.add.length) + e3.add.length) + e5.add.length) + e6.add.length) + e7.add.length)), (Eff.tr e9 ((((((S.nx + e1.add.length) + e3.add.length) + e5.add.length) + e6.add.length) + e7.add.length) + e8.add.length)), ⟨(((((((S.nx + e1.add.length) + e3.add.length) + e5.add.length) + e6.add.length) + e7.add.length) + e8.add.length) + e9.add.length), 0, [], [], []⟩] = true ∧ K ⟨[(13, S.get 13), (14, r9)], (Eff.hp e9 ((((((S.nx + e1.add.length) + e3.add.length) + e5.add.length) + e6.add.length) + e7.add.length) + e8.add.length) (Eff.hp e8 (((((S.nx + e1.add.length) + e3.add.length) + e5.add.length) + e6.add.length) + e7.add.length) (Eff.hp e7 ((((S.nx + e1.add.length) + e3.add.length) + e5.add.length) + e6.add.length) (Eff.hp e6 (((S.nx + e1.add.length) + e3.add.length) + e5.add.length) (Eff.hp e5 ((S.nx + e1.add.length) + e3.add.length) (Eff.hp e3 (S.nx + e1.add.length) (Eff.hp e1 S.nx S.hp))))))), (((((((S.nx + e1.add.length) + e3.add.length) + e5.add.length) + e6.add.length) + e7.add.length) + e8.add.length) + e9.add.length), S.gh⟩)))))))))) fun K hK => ?_
      repeat' (first | (refine hK _ ?_; clear hK K) | (refine (?_ : trOk _ _ _ = true); kernel_rfl) | ((first | refine xG_intro (fun hg => ?_) (fun hg => ?_) | refine fun (hg : (_ : Prop)) => ?_) <;> ((try simp only [BQ] at hg); try (exfalso; omega))) | refine And.intro ?_ ?_ | exact cl | exact bigR_byte | refine one_take ?_ _ | refine one_drop ?_ _ | refine .inl ⟨_, _, specs_pure l how by_ hl hh hb, ?_⟩ | refine ⟨_, _, specs_pure l how by_ hl hh hb, ?_⟩ | refine .inl ⟨_, _, texts_pure m 5 hm (by decide) (by decide), ?_⟩ | refine ⟨_, _, texts_pure m 5 hm (by decide) (by decide), ?_⟩ | refine .inl ⟨_, _, Short_pure raw 100 (by decide), ?_⟩ | refine ⟨_, _, Short_pure raw 100 (by decide), ?_⟩ | refine .inl ⟨_, _, Short_pure more 100 (by decide), ?_⟩ | refine ⟨_, _, Short_pure more 100 (by decide), ?_⟩ | refine .inl ⟨_, _, (own_pure sp).spec hsp, ?_⟩ | refine ⟨_, _, (own_pure sp).spec hsp, ?_⟩ | refine .inl ⟨_, _, cCompare_pure sp (ls B k) (ls B j) htame hsz1 hsj1, ?_⟩ | refine ⟨_, _, cCompare_pure sp (ls B k) (ls B j) htame hsz1 hsj1, ?_⟩ | refine .inl ⟨_, _, (rCompare_pure sp (ls B k) (ls B j) hsane hsz2 hsj2).spec hsp, ?_⟩ | refine ⟨_, _, (rCompare_pure sp (ls B k) (ls B j) hsane hsz2 hsj2).spec hsp, ?_⟩ | refine .inl ⟨_, _, lives_pure, ?_⟩ | refine ⟨_, _, lives_pure, ?_⟩ | simp (maxSteps := 2000000) only [↓SD, push_cast, Nat.reduceAdd, Nat.reduceSub, Nat.reduceMul, Nat.reduceLT, Nat.reduceLeDiff, Nat.reduceEqDiff, Int.reduceToNat, reduceIte, reduceCtorEq, Int.reduceLE, Int.reduceLT, Int.reduceNeg, ints, strs, encI, encS, renL_PL, renL_specsL, encSpec, ↓rep4097, bigR_len, bigR_eq, zeroB_size, dec_self, beq_self_eq_true, textsN_len])
      all_goals try simp (disch := omega) only [wrap_id, wrap8_id]
      all_goals
       rw [cmpsB_len]
       refine ⟨(), [3], ?_⟩
       exact leqW25
    · rintro ⟨⟩
      refine Tri.seq ?_
      have hBs := cmpsB_size m raw more
      have hBl : (cmpsB m raw more).length ≤ 8 := by rw [cmpsB_len]; omega
      generalize cmpsB m raw more = B at hBs hBl ⊢
      refine sZ [13, 14, 15] (fun P S K => K ⟨[(13, S.get 13), (14, S.get 14), (15, (.atom (.int .i64 0)))], S.hp, S.nx, S.gh⟩) fun K hK => ?_
      repeat' (first | (refine hK _ ?_; clear hK K) | ((first | refine xG_intro (fun hg => ?_) (fun hg => ?_) | refine fun (hg : (_ : Prop)) => ?_) <;> ((try simp only [BQ] at hg); try (exfalso; omega))) | refine And.intro ?_ ?_ | exact cl | exact bigR_byte | refine one_take ?_ _ | refine one_drop ?_ _ | (refine st ?_; try simp only [renL_PL, renL_specsL, encSpec, ↓rep4097, bigR_len, bigR_eq, zeroB_size, dec_self, beq_self_eq_true]) | simp only [renL_PL, renL_specsL, encSpec, ↓rep4097, bigR_len, bigR_eq, zeroB_size, dec_self, beq_self_eq_true])
      all_goals try simp (disch := omega) only [wrap_id, wrap8_id]
      all_goals
       refine Tri.block ?_
       refine Tri.loop (α := (i : Nat) ×' (i ≤ 4)) (fun z => (fun (i : Nat) => (⟨[(13, .sl 4 LP.1), (14, .ob 0 1 0 B.length), (15, encI i)], [(0, some ⟨1, B.map encS⟩)], 1, []⟩ : St)) z.1) (fun z => (fun (i : Nat) => 4 - i) z.1) ⟨0, Nat.zero_le _⟩ [0] ?_ ?_
       · exact leqW25
       · rintro ⟨i, hi⟩
         refine Tri.seq ?_
         refine sZ [13, 14, 15, 39] (fun P S K => XvLen P 23 (S.get 13) (fun r2 _ => XvBinOV P .lss 3 (.tmp 38) (S.get 15) r2 (fun r3 _ => K ⟨[(13, S.get 13), (14, S.get 14), (15, S.get 15), (39, r3)], S.hp, S.nx, S.gh⟩))) fun K hK => ?_
         repeat' (first | (refine hK _ ?_; clear hK K) | ((first | refine xG_intro (fun hg => ?_) (fun hg => ?_) | refine fun (hg : (_ : Prop)) => ?_) <;> ((try simp only [BQ] at hg); try (exfalso; omega))) | refine And.intro ?_ ?_ | exact cl | exact bigR_byte | refine one_take ?_ _ | refine one_drop ?_ _ | (refine st ?_; try simp only [renL_PL, renL_specsL, encSpec, ↓rep4097, bigR_len, bigR_eq, zeroB_size, dec_self, beq_self_eq_true]) | simp only [renL_PL, renL_specsL, encSpec, ↓rep4097, bigR_len, bigR_eq, zeroB_size, dec_self, beq_self_eq_true])
         all_goals try simp (disch := omega) only [wrap_id, wrap8_id]
         all_goals
          refine Tri.cond rfl (fun h39 => ?_) (fun h39 => ?_)
          · try (cases h39; done)
            all_goals (try simp only [CQ] at h39)
            all_goals
             refine Tri.skip ?_
             refine Tri.seq ?_
             refine Tri.block ?_
             have hi4 : i < 4 := by omega
             obtain ⟨sp, hfit, sv, ov, hx, hsv, hov⟩ := his i hi4
             have hsp : IsSpec sp (.agg [.atom (.bool sp.words), sv, .atom (.bool sp.numbers), ov]) := ⟨sv, ov, rfl, hsv, hov⟩
             have hsane := hfit.sane (by decide)
             have htame := hsane.tame
             have hp1 := hsv.pure (pureL_encS _)
             have hp2 := hov.pure (pureL_encS _)
             have r1 : ∀ ρ, sv.ren ρ = sv := fun ρ => ren_pure ρ _ hp1
             have r2 : ∀ ρ, ov.ren ρ = ov := fun ρ => ren_pure ρ _ hp2
             have s1 : ∀ H keep n, sealed H keep n sv = sv := fun H k n => sealed_pure H k n hp1
             have s2 : ∀ H keep n, sealed H keep n ov = ov := fun H k n => sealed_pure H k n hp2
             have q1 := hsv.reach
             have q2 := hov.reach
             have o1 : sv.noOb = true := pure_noOb _ hp1
             have o2 : ov.noOb = true := pure_noOb _ hp2
             refine sZ [13, 14, 15, 16] (fun P S K => K ⟨[(13, S.get 13), (14, S.get 14), (15, S.get 15), (16, (.atom (.int .i64 0)))], S.hp, S.nx, S.gh⟩) fun K hK => ?_
             repeat' (first | (refine hK _ ?_; clear hK K) | ((first | refine xG_intro (fun hg => ?_) (fun hg => ?_) | refine fun (hg : (_ : Prop)) => ?_) <;> ((try simp only [BQ] at hg); try (exfalso; omega))) | refine And.intro ?_ ?_ | exact cl | exact bigR_byte | refine one_take ?_ _ | refine one_drop ?_ _ | (refine st ?_; try simp only [renL_PL, renL_specsL, encSpec, ↓rep4097, bigR_len, bigR_eq, zeroB_size, dec_self, beq_self_eq_true]) | simp only [renL_PL, renL_specsL, encSpec, ↓rep4097, bigR_len, bigR_eq, zeroB_size, dec_self, beq_self_eq_true])
             all_goals try simp (disch := omega) only [wrap_id, wrap8_id]
             all_goals
              refine Tri.block ?_
              refine Tri.loop (α := (k : Nat) ×' (k ≤ B.length)) (fun z => (fun (k : Nat) => (⟨[(13, .sl 4 LP.1), (14, .ob 0 1 0 B.length), (15, encI i), (16, encI k)], [(0, some ⟨1, B.map encS⟩)], 1, []⟩ : St)) z.1) (fun z => (fun (k : Nat) => 8 - k) z.1) ⟨0, Nat.zero_le _⟩ [0] ?_ ?_
              · exact leqW25
              · rintro ⟨k, hk⟩
                refine Tri.seq ?_
                refine sZ [13, 14, 15, 16, 45] (fun P S K => XvLen P 25 (S.get 14) (fun r2 _ => XvBinOV P .lss 3 (.tmp 44) (S.get 16) r2 (fun r3 _ => K ⟨[(13, S.get 13), (14, S.get 14), (15, S.get 15), (16, S.get 16), (45, r3)], S.hp, S.nx, S.gh⟩))) fun K hK => ?_
                repeat' (first | (refine hK _ ?_; clear hK K) | ((first | refine xG_intro (fun hg => ?_) (fun hg => ?_) | refine fun (hg : (_ : Prop)) => ?_) <;> ((try simp only [BQ] at hg); try (exfalso; omega))) | refine And.intro ?_ ?_ | exact cl | exact bigR_byte | refine one_take ?_ _ | refine one_drop ?_ _ | (refine st ?_; try simp only [renL_PL, renL_specsL, encSpec, ↓rep4097, bigR_len, bigR_eq, zeroB_size, dec_self, beq_self_eq_true]) | simp only [renL_PL, renL_specsL, encSpec, ↓rep4097, bigR_len, bigR_eq, zeroB_size, dec_self, beq_self_eq_true])
                all_goals try simp (disch := omega) only [wrap_id, wrap8_id]
                all_goals
                 refine Tri.cond rfl (fun h45 => ?_) (fun h45 => ?_)
                 · try (cases h45; done)
                   all_goals (try simp only [CQ] at h45)
                   all_goals
                    refine Tri.skip ?_
                    refine Tri.seq ?_
                    refine Tri.block ?_
                    refine sZ [13, 14, 15, 16, 17] (fun P S K => K ⟨[(13, S.get 13), (14, S.get 14), (15, S.get 15), (16, S.get 16), (17, (.atom (.int .i64 0)))], S.hp, S.nx, S.gh⟩) fun K hK => ?_
                    repeat' (first | (refine hK _ ?_; clear hK K) | ((first | refine xG_intro (fun hg => ?_) (fun hg => ?_) | refine fun (hg : (_ : Prop)) => ?_) <;> ((try simp only [BQ] at hg); try (exfalso; omega))) | refine And.intro ?_ ?_ | exact cl | exact bigR_byte | refine one_take ?_ _ | refine one_drop ?_ _ | (refine st ?_; try simp only [renL_PL, renL_specsL, encSpec, ↓rep4097, bigR_len, bigR_eq, zeroB_size, dec_self, beq_self_eq_true]) | simp only [renL_PL, renL_specsL, encSpec, ↓rep4097, bigR_len, bigR_eq, zeroB_size, dec_self, beq_self_eq_true])
                    all_goals try simp (disch := omega) only [wrap_id, wrap8_id]
                    all_goals
                     refine Tri.block ?_
                     refine Tri.loop (α := (j : Nat) ×' (j ≤ B.length)) (fun z => (fun (j : Nat) => (⟨[(13, .sl 4 LP.1), (14, .ob 0 1 0 B.length), (15, encI i), (16, encI k), (17, encI j)], [(0, some ⟨1, B.map encS⟩)], 1, []⟩ : St)) z.1) (fun z => (fun (j : Nat) => 8 - j) z.1) ⟨0, Nat.zero_le _⟩ [0] ?_ ?_
                     · exact leqW25
                     · rintro ⟨j, hj⟩
                       refine Tri.seq ?_
                       refine sZ [13, 14, 15, 16, 17, 51] (fun P S K => XvLen P 25 (S.get 14) (fun r2 _ => XvBinOV P .lss 3 (.tmp 50) (S.get 17) r2 (fun r3 _ => K ⟨[(13, S.get 13), (14, S.get 14), (15, S.get 15), (16, S.get 16), (17, S.get 17), (51, r3)], S.hp, S.nx, S.gh⟩))) fun K hK => ?_
                       repeat' (first | (refine hK _ ?_; clear hK K) | ((first | refine xG_intro (fun hg => ?_) (fun hg => ?_) | refine fun (hg : (_ : Prop)) => ?_) <;> ((try simp only [BQ] at hg); try (exfalso; omega))) | refine And.intro ?_ ?_ | exact cl | exact bigR_byte | refine one_take ?_ _ | refine one_drop ?_ _ | (refine st ?_; try simp only [renL_PL, renL_specsL, encSpec, ↓rep4097, bigR_len, bigR_eq, zeroB_size, dec_self, beq_self_eq_true]) | simp only [renL_PL, renL_specsL, encSpec, ↓rep4097, bigR_len, bigR_eq, zeroB_size, dec_self, beq_self_eq_true])
                       all_goals try simp (disch := omega) only [wrap_id, wrap8_id]
                       all_goals
                        refine Tri.cond rfl (fun h51 => ?_) (fun h51 => ?_)
                        · try (cases h51; done)
                          all_goals (try simp only [CQ] at h51)
                          all_goals
                           refine Tri.skip ?_
                           refine Tri.seq ?_
                           refine Tri.block ?_
                           have hkB : k < B.length := by omega
                           have hjB : j < B.length := by omega
                           have hsz0 := hBs _ (ls_mem hkB)
                           have hsz1 : (ls B k).size ≤ 9223372036854775807 := by omega
                           have hsz2 : (ls B k).size ≤ 4294967296 := by omega
                           have hsj0 := hBs _ (ls_mem hjB)
                           have hsj1 : (ls B j).size ≤ 9223372036854775807 := by omega
                           have hsj2 : (ls B j).size ≤ 4294967296 := by omega
                           refine sD 19 [13, 14, 15, 16, 17, 18, 19] (fun P GD S K => XvIndexAddr P 23 (S.get 13) (S.get 15) (fun r2 e2 => XvLoad P 35 (M S.hp S.nx) r2 (fun r3 e3 => XvFnV P (M S.hp S.nx) (.fn 14 []) [r3] (fun r4 e4 => XvIndexAddr P 25 (S.get 14) (S.get 16) (fun r7 e7 => XvLoad P 9 (M (Eff.hp e4 S.nx S.hp) (S.nx + e4.add.length)) r7 (fun r8 e8 => XvIndexAddr P 25 (S.get 14) (S.get 17) (fun r11 e11 => XvLoad P 9 (M (Eff.hp e4 S.nx S.hp) (S.nx + e4.add.length)) r11 (fun r12 e12 => XvFnV P (M (Eff.hp e4 S.nx S.hp) (S.nx + e4.add.length)) (.fn 20 []) [r4, r8, r12] (fun r13 e13 => XvExtract r13 0 (fun r15 e15 => XvExtract r13 1 (fun r16 e16 => (trOk S.nx GD [⟨S.nx, 0, [], [], []⟩, ⟨S.nx, 0, [], [], []⟩, ⟨S.nx, 0, e2.rd, [], []⟩, ⟨S.nx, 0, e3.rd, [], []⟩, (Eff.tr e4 S.nx), ⟨(S.nx + e4.add.length), 0, [], [], []⟩, ⟨(S.nx + e4.add.length), 0, [], [], []⟩, ⟨(S.nx + e4.add.length), 0, e7.rd, [], []⟩, ⟨(S.nx + e4.add.length), 0, e8.rd, [], []⟩, ⟨(S.nx + e4.add.length), 0, [], [], []⟩, ⟨(S.nx + e4.add.length), 0, [], [], []⟩, ⟨(S.nx + e4.add.length), 0, e11.rd, [], []⟩, ⟨(S.nx + e4.add.length), 0, e12.rd, [], []⟩, (Eff.tr e13 (S.nx + e4.add.length)), ⟨((S.nx + e4.add.length) + e13.add.length), 0, [], [], []⟩, ⟨((S.nx + e4.add.length) + e13.add.length), 0, e15.rd, [], []⟩, ⟨((S.nx + e4.add.length) + e13.add.length), 0, e16.rd, [], []⟩, ⟨((S.nx + e4.add.length) + e13.add.length), 0, [], [], []⟩, ⟨((S.nx + e4.add.length) + e13.add.length), 0, [], [], []⟩] = true ∧ K ⟨[(13, S.get 13), (14, S.get 14), (15, S.get 15), (16, S.get 16), (17, S.get 17), (18, r15), (19, r16)], (Eff.hp e13 (S.nx + e4.add.length) (Eff.hp e4 S.nx S.hp)), ((S.nx + e4.add.length) + e13.add.length), S.gh⟩)))))))))))) fun K hK => ?_
                           repeat' (first | (refine hK _ ?_; clear hK K) | (refine (?_ : trOk _ _ _ = true); (simp only [reach, List.flatMap_cons, List.flatMap_nil, List.append_nil, List.nil_append, q1, q2]; kernel_rfl)) | ((first | refine xG_intro (fun hg => ?_) (fun hg => ?_) | refine fun (hg : (_ : Prop)) => ?_) <;> ((try simp only [BQ] at hg); try (exfalso; omega))) | refine And.intro ?_ ?_ | exact cl | exact bigR_byte | refine one_take ?_ _ | refine one_drop ?_ _ | refine .inl ⟨_, _, specs_pure l how by_ hl hh hb, ?_⟩ | refine ⟨_, _, specs_pure l how by_ hl hh hb, ?_⟩ | refine .inl ⟨_, _, texts_pure m 5 hm (by decide) (by decide), ?_⟩ | refine ⟨_, _, texts_pure m 5 hm (by decide) (by decide), ?_⟩ | refine .inl ⟨_, _, Short_pure raw 100 (by decide), ?_⟩ | refine ⟨_, _, Short_pure raw 100 (by decide), ?_⟩ | refine .inl ⟨_, _, Short_pure more 100 (by decide), ?_⟩ | refine ⟨_, _, Short_pure more 100 (by decide), ?_⟩ | refine .inl ⟨_, _, (own_pure sp).spec hsp, ?_⟩ | refine ⟨_, _, (own_pure sp).spec hsp, ?_⟩ | refine .inl ⟨_, _, cCompare_pure sp (ls B k) (ls B j) htame hsz1 hsj1, ?_⟩ | refine ⟨_, _, cCompare_pure sp (ls B k) (ls B j) htame hsz1 hsj1, ?_⟩ | refine .inl ⟨_, _, (rCompare_pure sp (ls B k) (ls B j) hsane hsz2 hsj2).spec hsp, ?_⟩ | refine ⟨_, _, (rCompare_pure sp (ls B k) (ls B j) hsane hsz2 hsj2).spec hsp, ?_⟩ | refine .inl ⟨_, _, lives_pure, ?_⟩ | refine ⟨_, _, lives_pure, ?_⟩ | (refine st ?_; try simp only [renL_PL, renL_specsL, encSpec, ↓rep4097, bigR_len, bigR_eq, zeroB_size, dec_self, beq_self_eq_true, hx, hlen, r1, r2, s1, s2, o1, o2, getD_encS hkB, getD_encS hjB]) | simp only [renL_PL, renL_specsL, encSpec, ↓rep4097, bigR_len, bigR_eq, zeroB_size, dec_self, beq_self_eq_true, hx, hlen, r1, r2, s1, s2, o1, o2, getD_encS hkB, getD_encS hjB])
                           all_goals try simp (disch := omega) only [wrap_id, wrap8_id]
                           all_goals
                            refine sD 18 [13, 14, 15, 16, 17, 18, 19, 20, 21] (fun P GD S K => XvIndexAddr P 23 (S.get 13) (S.get 15) (fun r2 e2 => XvLoad P 35 (M S.hp S.nx) r2 (fun r3 e3 => XvIndexAddr P 25 (S.get 14) (S.get 16) (fun r6 e6 => XvLoad P 9 (M S.hp S.nx) r6 (fun r7 e7 => XvIndexAddr P 25 (S.get 14) (S.get 17) (fun r10 e10 => XvLoad P 9 (M S.hp S.nx) r10 (fun r11 e11 => XvFnV P (M S.hp S.nx) (.fn 21 []) [r3, r7, r11] (fun r12 e12 => XvExtract r12 0 (fun r14 e14 => XvExtract r12 1 (fun r15 e15 => (trOk S.nx GD [⟨S.nx, 0, [], [], []⟩, ⟨S.nx, 0, [], [], []⟩, ⟨S.nx, 0, e2.rd, [], []⟩, ⟨S.nx, 0, e3.rd, [], []⟩, ⟨S.nx, 0, [], [], []⟩, ⟨S.nx, 0, [], [], []⟩, ⟨S.nx, 0, e6.rd, [], []⟩, ⟨S.nx, 0, e7.rd, [], []⟩, ⟨S.nx, 0, [], [], []⟩, ⟨S.nx, 0, [], [], []⟩, ⟨S.nx, 0, e10.rd, [], []⟩, ⟨S.nx, 0, e11.rd, [], []⟩, (Eff.tr e12 S.nx), ⟨(S.nx + e12.add.length), 0, [], [], []⟩, ⟨(S.nx + e12.add.length), 0, e14.rd, [], []⟩, ⟨(S.nx + e12.add.length), 0, e15.rd, [], []⟩, ⟨(S.nx + e12.add.length), 0, [], [], []⟩, ⟨(S.nx + e12.add.length), 0, [], [], []⟩] = true ∧ K ⟨[(13, S.get 13), (14, S.get 14), (15, S.get 15), (16, S.get 16), (17, S.get 17), (18, S.get 18), (19, S.get 19), (20, r14), (21, r15)], (Eff.hp e12 S.nx S.hp), (S.nx + e12.add.length), S.gh⟩))))))))))) fun K hK => ?_
                            repeat' (first | (refine hK _ ?_; clear hK K) | (refine (?_ : trOk _ _ _ = true); (simp only [reach, List.flatMap_cons, List.flatMap_nil, List.append_nil, List.nil_append, q1, q2]; kernel_rfl)) | ((first | refine xG_intro (fun hg => ?_) (fun hg => ?_) | refine fun (hg : (_ : Prop)) => ?_) <;> ((try simp only [BQ] at hg); try (exfalso; omega))) | refine And.intro ?_ ?_ | exact cl | exact bigR_byte | refine one_take ?_ _ | refine one_drop ?_ _ | refine .inl ⟨_, _, specs_pure l how by_ hl hh hb, ?_⟩ | refine ⟨_, _, specs_pure l how by_ hl hh hb, ?_⟩ | refine .inl ⟨_, _, texts_pure m 5 hm (by decide) (by decide), ?_⟩ | refine ⟨_, _, texts_pure m 5 hm (by decide) (by decide), ?_⟩ | refine .inl ⟨_, _, Short_pure raw 100 (by decide), ?_⟩ | refine ⟨_, _, Short_pure raw 100 (by decide), ?_⟩ | refine .inl ⟨_, _, Short_pure more 100 (by decide), ?_⟩ | refine ⟨_, _, Short_pure more 100 (by decide), ?_⟩ | refine .inl ⟨_, _, (own_pure sp).spec hsp, ?_⟩ | refine ⟨_, _, (own_pure sp).spec hsp, ?_⟩ | refine .inl ⟨_, _, cCompare_pure sp (ls B k) (ls B j) htame hsz1 hsj1, ?_⟩ | refine ⟨_, _, cCompare_pure sp (ls B k) (ls B j) htame hsz1 hsj1, ?_⟩ | refine .inl ⟨_, _, (rCompare_pure sp (ls B k) (ls B j) hsane hsz2 hsj2).spec hsp, ?_⟩ | refine ⟨_, _, (rCompare_pure sp (ls B k) (ls B j) hsane hsz2 hsj2).spec hsp, ?_⟩ | refine .inl ⟨_, _, lives_pure, ?_⟩ | refine ⟨_, _, lives_pure, ?_⟩ | (refine st ?_; try simp only [renL_PL, renL_specsL, encSpec, ↓rep4097, bigR_len, bigR_eq, zeroB_size, dec_self, beq_self_eq_true, hx, hlen, r1, r2, s1, s2, o1, o2, getD_encS hkB, getD_encS hjB]) | simp only [renL_PL, renL_specsL, encSpec, ↓rep4097, bigR_len, bigR_eq, zeroB_size, dec_self, beq_self_eq_true, hx, hlen, r1, r2, s1, s2, o1, o2, getD_encS hkB, getD_encS hjB])
                            all_goals try simp (disch := omega) only [wrap_id, wrap8_id]
                            all_goals
                             refine sZ [13, 14, 15, 16, 17, 94] (fun P S K => XvBinOV P .neq 30 (.tmp 88) (S.get 19) (S.get 21) (fun r2 _ => Xgq r2 false (fun k => k (S.get 18)) (fun g4 r4 => Xgq g4 false (fun k => k (S.get 20)) (fun g5 r5 => Xgq g5 false (fun k => XvBinOV P .neq 3 (.tmp 92) r4 r5 (fun r6 _ => k r6)) (fun g6 r6 => XvPick g6 (.atom (.bool true)) r6 (fun r7 _ => K ⟨[(13, S.get 13), (14, S.get 14), (15, S.get 15), (16, S.get 16), (17, S.get 17), (94, r7)], S.hp, S.nx, S.gh⟩)))))) fun K hK => ?_
                             repeat' (first | (refine hK _ ?_; clear hK K) | ((first | refine xG_intro (fun hg => ?_) (fun hg => ?_) | refine fun (hg : (_ : Prop)) => ?_) <;> ((try simp only [BQ] at hg); try (exfalso; omega))) | refine And.intro ?_ ?_ | exact cl | exact bigR_byte | refine one_take ?_ _ | refine one_drop ?_ _ | (refine st ?_; try simp only [renL_PL, renL_specsL, encSpec, ↓rep4097, bigR_len, bigR_eq, zeroB_size, dec_self, beq_self_eq_true]) | simp only [renL_PL, renL_specsL, encSpec, ↓rep4097, bigR_len, bigR_eq, zeroB_size, dec_self, beq_self_eq_true])
                             all_goals try simp (disch := omega) only [wrap_id, wrap8_id]
                             all_goals
                              refine Tri.cond rfl (fun h94 => ?_) (fun h94 => ?_)
                              · try (cases h94; done)
                                all_goals (try simp only [CQ] at h94)
                                all_goals
                                 refine sZ [12] (fun P S K => K ⟨[(12, (.atom (.bool false)))], S.hp, S.nx, S.gh⟩) fun K hK => ?_
                                 repeat' (first | (refine hK _ ?_; clear hK K) | ((first | refine xG_intro (fun hg => ?_) (fun hg => ?_) | refine fun (hg : (_ : Prop)) => ?_) <;> ((try simp only [BQ] at hg); try (exfalso; omega))) | refine And.intro ?_ ?_ | exact cl | exact bigR_byte | refine one_take ?_ _ | refine one_drop ?_ _ | (refine st ?_; try simp only [renL_PL, renL_specsL, encSpec, ↓rep4097, bigR_len, bigR_eq, zeroB_size, dec_self, beq_self_eq_true]) | simp only [renL_PL, renL_specsL, encSpec, ↓rep4097, bigR_len, bigR_eq, zeroB_size, dec_self, beq_self_eq_true])
                                 all_goals try simp (disch := omega) only [wrap_id, wrap8_id]
                                 all_goals
                                  refine Tri.ret ?_
                                  show ResOk _ _ _ _
                                  done
                              · try (cases h94; done)
                                all_goals (try simp only [CQ] at h94)
                                all_goals
                                 refine Tri.skip ?_
                                 refine rZ [13, 14, 15, 16, 17] (fun P S K => XvBinOV P .add 3 (.const (.int .i64 1)) (S.get 17) (.atom (.int .i64 1)) (fun r1 _ => K ⟨[(13, S.get 13), (14, S.get 14), (15, S.get 15), (16, S.get 16), (17, r1)], S.hp, S.nx, S.gh⟩)) fun K hK => ?_
                                 repeat' (first | (refine hK _ ?_; clear hK K) | ((first | refine xG_intro (fun hg => ?_) (fun hg => ?_) | refine fun (hg : (_ : Prop)) => ?_) <;> ((try simp only [BQ] at hg); try (exfalso; omega))) | refine And.intro ?_ ?_ | exact cl | exact bigR_byte | refine one_take ?_ _ | refine one_drop ?_ _ | (refine st ?_; try simp only [renL_PL, renL_specsL, encSpec, ↓rep4097, bigR_len, bigR_eq, zeroB_size, dec_self, beq_self_eq_true]) | simp only [renL_PL, renL_specsL, encSpec, ↓rep4097, bigR_len, bigR_eq, zeroB_size, dec_self, beq_self_eq_true])
                                 all_goals try simp (disch := omega) only [wrap_id, wrap8_id]
                                 all_goals
                                  refine ⟨⟨j + 1, by omega⟩, [0], by dsimp only; omega, ?_⟩
                                  exact leqW25
                        · try (cases h51; done)
                          all_goals (try simp only [CQ] at h51)
                          all_goals
                           refine Tri.exit ?_
                           refine rZ [13, 14, 15, 16] (fun P S K => XvBinOV P .add 3 (.const (.int .i64 1)) (S.get 16) (.atom (.int .i64 1)) (fun r1 _ => K ⟨[(13, S.get 13), (14, S.get 14), (15, S.get 15), (16, r1)], S.hp, S.nx, S.gh⟩)) fun K hK => ?_
                           repeat' (first | (refine hK _ ?_; clear hK K) | ((first | refine xG_intro (fun hg => ?_) (fun hg => ?_) | refine fun (hg : (_ : Prop)) => ?_) <;> ((try simp only [BQ] at hg); try (exfalso; omega))) | refine And.intro ?_ ?_ | exact cl | exact bigR_byte | refine one_take ?_ _ | refine one_drop ?_ _ | (refine st ?_; try simp only [renL_PL, renL_specsL, encSpec, ↓rep4097, bigR_len, bigR_eq, zeroB_size, dec_self, beq_self_eq_true]) | simp only [renL_PL, renL_specsL, encSpec, ↓rep4097, bigR_len, bigR_eq, zeroB_size, dec_self, beq_self_eq_true])
                           all_goals try simp (disch := omega) only [wrap_id, wrap8_id]
                           all_goals
                            refine ⟨⟨k + 1, by omega⟩, [0], by dsimp only; omega, ?_⟩
                            exact leqW25
                 · try (cases h45; done)
                   all_goals (try simp only [CQ] at h45)
                   all_goals
                    refine Tri.exit ?_
                    refine rZ [13, 14, 15] (fun P S K => XvBinOV P .add 3 (.const (.int .i64 1)) (S.get 15) (.atom (.int .i64 1)) (fun r1 _ => K ⟨[(13, S.get 13), (14, S.get 14), (15, r1)], S.hp, S.nx, S.gh⟩)) fun K hK => ?_
                    repeat' (first | (refine hK _ ?_; clear hK K) | ((first | refine xG_intro (fun hg => ?_) (fun hg => ?_) | refine fun (hg : (_ : Prop)) => ?_) <;> ((try simp only [BQ] at hg); try (exfalso; omega))) | refine And.intro ?_ ?_ | exact cl | exact bigR_byte | refine one_take ?_ _ | refine one_drop ?_ _ | (refine st ?_; try simp only [renL_PL, renL_specsL, encSpec, ↓rep4097, bigR_len, bigR_eq, zeroB_size, dec_self, beq_self_eq_true]) | simp only [renL_PL, renL_specsL, encSpec, ↓rep4097, bigR_len, bigR_eq, zeroB_size, dec_self, beq_self_eq_true])
                    all_goals try simp (disch := omega) only [wrap_id, wrap8_id]
                    all_goals
                     refine ⟨⟨i + 1, by omega⟩, [0], by dsimp only; omega, ?_⟩
                     exact leqW25
          · try (cases h39; done)
            all_goals (try simp only [CQ] at h39)
            all_goals
             refine Tri.exit ?_
             refine sZ [12] (fun P S K => XvFnIV P (M S.hp S.nx) (.fn 19 []) [] (fun r0 e0 => K ⟨[(12, r0)], (Eff.hp e0 S.nx S.hp), (S.nx + e0.add.length), S.gh⟩)) fun K hK => ?_
             repeat' (first | (refine hK _ ?_; clear hK K) | ((first | refine xG_intro (fun hg => ?_) (fun hg => ?_) | refine fun (hg : (_ : Prop)) => ?_) <;> ((try simp only [BQ] at hg); try (exfalso; omega))) | refine And.intro ?_ ?_ | exact cl | exact bigR_byte | refine one_take ?_ _ | refine one_drop ?_ _ | refine .inl ⟨_, _, specs_pure l how by_ hl hh hb, ?_⟩ | refine ⟨_, _, specs_pure l how by_ hl hh hb, ?_⟩ | refine .inl ⟨_, _, texts_pure m 5 hm (by decide) (by decide), ?_⟩ | refine ⟨_, _, texts_pure m 5 hm (by decide) (by decide), ?_⟩ | refine .inl ⟨_, _, Short_pure raw 100 (by decide), ?_⟩ | refine ⟨_, _, Short_pure raw 100 (by decide), ?_⟩ | refine .inl ⟨_, _, Short_pure more 100 (by decide), ?_⟩ | refine ⟨_, _, Short_pure more 100 (by decide), ?_⟩ | refine .inl ⟨_, _, (own_pure sp).spec hsp, ?_⟩ | refine ⟨_, _, (own_pure sp).spec hsp, ?_⟩ | refine .inl ⟨_, _, cCompare_pure sp (ls B k) (ls B j) htame hsz1 hsj1, ?_⟩ | refine ⟨_, _, cCompare_pure sp (ls B k) (ls B j) htame hsz1 hsj1, ?_⟩ | refine .inl ⟨_, _, (rCompare_pure sp (ls B k) (ls B j) hsane hsz2 hsj2).spec hsp, ?_⟩ | refine ⟨_, _, (rCompare_pure sp (ls B k) (ls B j) hsane hsz2 hsj2).spec hsp, ?_⟩ | refine .inl ⟨_, _, lives_pure, ?_⟩ | refine ⟨_, _, lives_pure, ?_⟩ | (refine st ?_; try simp only [renL_PL, renL_specsL, encSpec, ↓rep4097, bigR_len, bigR_eq, zeroB_size, dec_self, beq_self_eq_true]) | simp only [renL_PL, renL_specsL, encSpec, ↓rep4097, bigR_len, bigR_eq, zeroB_size, dec_self, beq_self_eq_true])
             all_goals try simp (disch := omega) only [wrap_id, wrap8_id]
             all_goals
              refine Tri.ret ?_
              show ResOk _ _ _ _
              exact ResOk.val lsrW25 lpvW25
end Go.Proofs.YtfnkciboencifaaDoor
