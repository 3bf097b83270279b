/-
  Walks: own, texts, specs of the laws about collations.
-/
import Derived.Test.YtfnkciboencifaaDoorOW1
import Derived.Test.YtfnkciboencifaaDoorOW22
import Derived.Test.YtfnkciboencifaaDoorOL4
import Derived.Test.YtfnkciboencifaaDoorOW31
set_option linter.all false
namespace Go.Proofs.YtfnkciboencifaaDoor
open Go Go.RowKit
set_option linter.unusedSimpArgs false
set_option linter.unusedVariables false
set_option maxRecDepth 20000
set_option maxHeartbeats 400000
theorem leqW23 {p : Prop} (h : p := by (refine ⟨4, ?_, ?_, rfl, by simp, rfl, fun _ h _ => absurd h (Nat.not_lt_zero _)⟩ <;> (simp only [List.forall_mem_cons]; repeat' (first | refine And.intro ?_ ?_ | (intro p hp; exact absurd hp List.not_mem_nil) | rfl | exact sp (pure_madeV _) | exact sp (pure_spec _) | exact (sealed_pure _ _ _ (pure_ints _)).trans (ren_ints _ _).symm | exact (sealed_pure _ _ _ (pure_strs _)).trans (ren_strs _ _).symm | exact sp (by assumption) | (intro o ho; cases ho; refine ⟨by decide, ?_⟩; first | (refine LeqS.row rfl ?_ ?_; (next => (first | rfl | (simp only [List.map_append, List.map_cons, List.map_nil, List.append_nil, List.nil_append, List.append_assoc, List.cons_append, encI, encS, ints, strs]; done) | (simp [encI, encS, ints, strs]; done))); (next => (first | rfl | exact pureL_encI _ | exact pureL_encS _ | exact pureL_ints _ | exact pureL_strs _ | (simp [pureL_append, pureL_encI, pureL_encS, pureL_ints, pureL_strs, pureL, PV.pure, pure_ints, pure_strs, pure_madeV, pure_spec]; done))); done) | refine ⟨_, rfl, rfl, ?_⟩) | (simp [St.born, St.known, retV, St.get, St.obj, lk, sealed, PV.ren, renL, rmap, AO.ren, ints, strs, encI, encS, map_sealed_encI, map_sealed_encS, map_sealed_ints, map_sealed_strs, map_ren_encI, map_ren_encS, map_ren_ints, map_ren_strs, renL_encI, renL_encS, renL_ints, renL_strs, ren_madeV, sealed_madeV, ren_spec] <;> omega))))) : p := h
theorem lelW23 {p : Prop} (h : p := by (first | rfl | (simp only [List.map_append, List.map_cons, List.map_nil, List.append_nil, List.nil_append, List.append_assoc, List.cons_append, encI, encS, ints, strs]; done) | (simp [encI, encS, ints, strs]; done))) : p := h
theorem lpuW23 {p : Prop} (h : p := by (first | rfl | exact pureL_encI _ | exact pureL_encS _ | exact pureL_ints _ | exact pureL_strs _ | (simp [pureL_append, pureL_encI, pureL_encS, pureL_ints, pureL_strs, pureL, PV.pure, pure_ints, pure_strs, pure_madeV, pure_spec]; done))) : p := h
theorem lsrW23 {p : Prop} (h : p := by (first | rfl | (simp [St.born, St.known, retV, St.get, St.obj, lk, sealed, PV.ren, renL, rmap, AO.ren, ints, strs, encI, encS, map_sealed_encI, map_sealed_encS, map_sealed_ints, map_sealed_strs, map_ren_encI, map_ren_encS, map_ren_ints, map_ren_strs, renL_encI, renL_encS, renL_ints, renL_strs, ren_madeV, sealed_madeV, ren_spec]; done))) : p := h
structure Fit (n : Nat) (s : SpecD) : Prop where
  skip : s.skip.length ≤ n
  order : s.order.length ≤ n
  skips : ∀ x, x ∈ s.skip → x.size ≤ 64
  orders : ∀ x, x ∈ s.order → x.size ≤ 64
theorem Fit.sane {n : Nat} {s : SpecD} (h : Fit n s) (hn : n ≤ 1000) : Sane s :=
  ⟨by have := h.skip; omega, by have := h.order; omega, fun x hx => by have := h.skips x hx; omega, fun x hx => by have := h.orders x hx; omega⟩
theorem sp7_size : ∀ x, x ∈ sp7 → x.size ≤ 64 := by decide
theorem sp8_size : ∀ x, x ∈ sp8 → x.size ≤ 64 := by decide
theorem ordX_size : ∀ i x, x ∈ ordX i → x.size ≤ 64
  | 0, x, h => by simp [ordX] at h
  | i + 1, x, h => by
    rw [ordX] at h
    rcases List.mem_append.1 h with h | h
    · exact ordX_size i x h
    · rw [List.mem_singleton.1 h, oneB_size]; omega
theorem orderN_size (kind : Int) : ∀ i x, x ∈ orderN kind i → x.size ≤ 64
  | 0, x, h => by simp [orderN] at h
  | i + 1, x, h => by
    rw [orderN] at h
    rcases List.mem_append.1 h with h | h
    · exact orderN_size kind i x h
    · split at h
      · rw [List.mem_singleton.1 h, ByteArray.size_append, oneB_size, oneB_size]; omega
      · rcases List.mem_cons.1 h with rfl | h
        · rw [oneB_size]; omega
        · rw [List.mem_singleton.1 h, oneB_size]; omega
theorem dig3_size : ∀ x, x ∈ dig3 → x.size ≤ 64 := by decide
theorem madeSk_fit (k : Int) : (madeSk k).length ≤ 60 ∧ ∀ x, x ∈ madeSk k → x.size ≤ 64 := by
  unfold madeSk
  split
  · exact ⟨by decide, by decide⟩
  · split
    · exact ⟨by decide, by decide⟩
    · split
      · exact ⟨by decide, by decide⟩
      · exact ⟨by decide, by decide⟩
theorem made_fit (l : List Int) : Fit 60 (madeS l) := by
  have ho := orderN_len (atI l 3 4) 26
  have hs := orderN_size (atI l 3 4) 26
  refine ⟨(madeSk_fit _).1, ?_, (madeSk_fit _).2, ?_⟩
  · show (madeO (atI l 3 4) (atI l 4 3)).length ≤ 60
    unfold madeO
    split
    · simp <;> omega
    · split
      · simp [dig3] <;> omega
      · omega
  · show ∀ x, x ∈ madeO (atI l 3 4) (atI l 4 3) → x.size ≤ 64
    unfold madeO
    split
    · intro x hx
      rcases List.mem_cons.1 hx with rfl | hx
      · decide
      · exact hs x hx
    · split
      · intro x hx
        rcases List.mem_append.1 hx with hx | hx
        · exact hs x hx
        · exact dig3_size x hx
      · exact hs
theorem spoilt_fit {n : Nat} {s : SpecD} (h : Fit n s) (how by_ : Int) : Fit (n + 50) (spoiltS s how by_) := by
  have h1 := h.skip
  have h2 := h.order
  have h7 := around_lo (n := by_) (most := 7) (by decide)
  have h7' := around_hi (n := by_) (most := 7) (by decide)
  have h8 := around_lo (n := by_) (most := 8) (by decide)
  have h8' := around_hi (n := by_) (most := 8) (by decide)
  have h36 := around_lo (n := by_) (most := 36) (by decide)
  have h36' := around_hi (n := by_) (most := 36) (by decide)
  unfold spoiltS
  split
  · refine ⟨by simp <;> omega, by simp <;> omega, fun x hx => ?_, h.orders⟩
    rcases List.mem_append.1 hx with hx | hx
    · exact h.skips x hx
    · rw [List.mem_singleton.1 hx]; exact sp7_size _ (ls_mem (by show _ < 7; omega))
  · split
    · refine ⟨by simp <;> omega, by simp <;> omega, h.skips, fun x hx => ?_⟩
      rcases List.mem_append.1 hx with hx | hx
      · exact h.orders x hx
      · rw [List.mem_singleton.1 hx]; exact sp8_size _ (ls_mem (by show _ < 8; omega))
    · split
      · refine ⟨by simp <;> omega, by simp <;> omega, fun x hx => ?_, h.orders⟩
        rcases List.mem_append.1 hx with hx | hx
        · exact h.skips x hx
        · rw [List.eq_of_mem_replicate hx]; decide
      · split
        · refine ⟨by simp <;> omega, by simp [ordX_len] <;> omega, h.skips, fun x hx => ?_⟩
          rcases List.mem_append.1 hx with hx | hx
          · exact h.orders x hx
          · exact ordX_size _ x hx
        · split
          · exact ⟨by simp <;> omega, by simp <;> omega, h.skips, fun x hx => h.orders x (List.mem_of_mem_take hx)⟩
          · split
            · exact ⟨by simp <;> omega, by simp <;> omega, h.skips, h.orders⟩
            · refine ⟨by simp <;> omega, by simp <;> omega, h.skips, fun x hx => ?_⟩
              rcases List.mem_cons.1 hx with rfl | hx
              · rw [oneB_size]; omega
              · rw [List.mem_singleton.1 hx]; decide
theorem own_pure (s : SpecD) : Pure Tryd.prog 14 [encSpec s] (encSpec s) [] := by
  refine Pure.introR (rv := [.cell 2 33]) Tryd.func14 (by kernel_rfl) rfl rfl rfl (Nat.le_of_ble_eq_true rfl) ?_ ?_
  · simp [encB, encS, encSpec, PV.pure, pureL, pure_strs]
  refine sZ [1, 2] (fun P S K => XvBox S.nx (S.get 0) (fun r0 e0 => XvAlloc P 33 (S.nx + e0.add.length) (fun r1 e1 => K ⟨[(1, r0), (2, r1)], (Eff.hp e1 (S.nx + e0.add.length) (Eff.hp e0 S.nx S.hp)), ((S.nx + e0.add.length) + e1.add.length), S.gh⟩))) fun K hK => ?_
  repeat' (first | (refine hK _ ?_; clear hK K) | ((first | refine xG_intro (fun hg => ?_) (fun hg => ?_) | refine fun (hg : (_ : Prop)) => ?_) <;> ((try simp only [BQ] at hg); try (exfalso; omega))) | refine And.intro ?_ ?_ | exact cl | refine one_take ?_ _ | refine one_drop ?_ _ | (refine st ?_; try simp only [encSpec]) | simp only [encSpec])
  all_goals
  refine sZ [2] (fun P S K => XvFieldAddr P 35 0 (S.get 1) (fun r0 _ => XvLoad P 4 (M S.hp S.nx) r0 (fun r1 _ => XvFieldAddr P 35 1 (S.get 1) (fun r2 _ => XvLoad P 25 (M S.hp S.nx) r2 (fun r3 _ => XvFieldAddr P 35 2 (S.get 1) (fun r4 _ => XvLoad P 4 (M S.hp S.nx) r4 (fun r5 _ => XvFieldAddr P 35 3 (S.get 1) (fun r6 _ => XvLoad P 25 (M S.hp S.nx) r6 (fun r7 _ => XvBuild P 33 [(0, r1), (1, r3), (2, r5), (3, r7)] (fun r8 _ => XvStore P 33 (M S.hp S.nx) (S.get 2) r8 (fun r9 e9 => K ⟨[(2, S.get 2)], (Eff.hp e9 S.nx S.hp), (S.nx + e9.add.length), S.gh⟩))))))))))) fun K hK => ?_
  repeat' (first | (refine hK _ ?_; clear hK K) | ((first | refine xG_intro (fun hg => ?_) (fun hg => ?_) | refine fun (hg : (_ : Prop)) => ?_) <;> ((try simp only [BQ] at hg); try (exfalso; omega))) | refine And.intro ?_ ?_ | exact cl | refine one_take ?_ _ | refine one_drop ?_ _ | (refine st ?_; try simp only [encSpec]) | simp only [encSpec])
  all_goals
  refine Tri.ret ?_
  show ResR _ _ _ _ _
  exact ResR.cell1 (encSpec s) rfl (sealed_pure _ _ _ (pure_spec _)) (pure_spec _)
def textC (len : Nat) (most : Int) : Nat := min ((len + 4) / 5) most.toNat
def textsN (l : List Int) : Nat → List ByteArray
  | 0 => []
  | i + 1 => textsN l i ++ [textS l (5 * i)]
theorem textsN_len (l : List Int) : ∀ i, (textsN l i).length = i
  | 0 => rfl
  | i + 1 => by rw [textsN, List.length_append, textsN_len l i]; rfl
theorem textsN_size (l : List Int) : ∀ i x, x ∈ textsN l i → x.size ≤ 40
  | 0, x, h => by simp [textsN] at h
  | i + 1, x, h => by
    rw [textsN] at h
    rcases List.mem_append.1 h with h | h
    · exact textsN_size l i x h
    · rw [List.mem_singleton.1 h]; exact textS_size _ _
theorem texts_pure (l : List Int) (most : Int) (hl : Fits l) (h0 : 0 ≤ most) (h1 : most ≤ 1000) : Pure Tryd.prog 10 [ints l, encI most] (.ob 0 1 0 (textC l.length most)) [⟨1, (textsN l (textC l.length most)).map encS⟩] := by
  have hll := hl.2
  refine Pure.intro (ts := [4]) Tryd.func10 (by kernel_rfl) rfl rfl rfl (Nat.le_of_ble_eq_true rfl) ?_ ?_
  · simp [pure_ints, pure_strs, encI, encS, PV.pure, pureL]
  refine sY [0, 1] (fun P S K => K ⟨[(0, S.get 0), (1, S.get 1)], S.hp, S.nx, S.gh⟩) ?_
  all_goals
  refine sY [0, 1, 5] (fun P S K => K ⟨[(0, S.get 0), (1, S.get 1), (5, (.atom (.slice none 0 0)))], S.hp, S.nx, S.gh⟩) ?_
  refine Tri.born 5 1 rfl ?_
  all_goals
  refine Tri.seq ?_
  refine sY [0, 1, 5, 6] (fun P S K => K ⟨[(0, S.get 0), (1, S.get 1), (5, S.get 5), (6, (.atom (.int .i64 0)))], S.hp, S.nx, S.gh⟩) ?_
  all_goals
  refine Tri.block ?_
  refine Tri.loop (α := (i : Nat) ×' (i ≤ textC l.length most)) (fun z => (fun (i : Nat) => (⟨[(0, ints l), (1, encI most), (5, .ob 0 1 0 i), (6, encI i)], [(0, some ⟨1, (textsN l i).map encS⟩)], 1, []⟩ : St)) z.1) (fun z => (fun (i : Nat) => 1000 - i) z.1) ⟨0, Nat.zero_le _⟩ [0] ?_ ?_
  ·exact leqW23
  ·rintro ⟨i, hi⟩
   have hi2 := hi
   unfold textC at hi2
   have hw5 : IntKind.i64.wrap (5 * (i : Int)) = 5 * i := wrap_id (by omega) (by omega)
   have htl := textsN_len l i
   refine Tri.seq ?_
   refine sZ [0, 1, 5, 6, 16] (fun P S K => XvBinOV P .mul 3 (.tmp 7) (.atom (.int .i64 5)) (S.get 6) (fun r1 _ => XvLen P 22 (S.get 0) (fun r3 _ => XvBinOV P .lss 3 (.tmp 10) r1 r3 (fun r4 _ => Xgq r4 true (fun k => k (S.get 6)) (fun g6 r6 => Xgq g6 true (fun k => k (S.get 1)) (fun g7 r7 => Xgq g7 true (fun k => XvBinOV P .lss 3 (.tmp 14) r6 r7 (fun r8 _ => k r8)) (fun g8 r8 => XvPick g8 r8 (.atom (.bool false)) (fun r9 _ => K ⟨[(0, S.get 0), (1, S.get 1), (5, S.get 5), (6, S.get 6), (16, r9)], S.hp, S.nx, S.gh⟩)))))))) fun K hK => ?_
   repeat' (first | (refine hK _ ?_; clear hK K) | ((first | refine xG_intro (fun hg => ?_) (fun hg => ?_) | refine fun (hg : (_ : Prop)) => ?_) <;> ((try simp only [BQ] at hg); try (exfalso; omega))) | refine And.intro ?_ ?_ | exact cl | refine one_take ?_ _ | refine one_drop ?_ _ | (refine st ?_; try simp only [hw5]) | simp only [hw5])
   all_goals try simp (disch := omega) only [wrap_id, wrap8_id]
   all_goals
   refine Tri.cond rfl (fun h16 => ?_) (fun h16 => ?_)
   ·try (cases h16; done)
    all_goals (try simp only [CQ] at h16)
    all_goals
    refine Tri.skip ?_
    refine Tri.seq ?_
    refine Tri.block ?_
    refine rZ [0, 1, 5, 6] (fun P S K => XvBinOV P .mul 3 (.tmp 21) (.atom (.int .i64 5)) (S.get 6) (fun r3 _ => XvFnIV P (M S.hp S.nx) (.fn 34 []) [(S.get 0), r3] (fun r4 e4 => XvBuildS P 25 1 (S.nx + e4.add.length) [(0, r4)] (fun r5 e5 => (25 = 25 ∧ XvAppend P 25 (M (Eff.hp e5 (S.nx + e4.add.length) (Eff.hp e4 S.nx S.hp)) ((S.nx + e4.add.length) + e5.add.length)) (S.get 5) r5 (fun r6 e6 => K ⟨[(0, S.get 0), (1, S.get 1), (5, r6), (6, S.get 6)], (Eff.hp e6 ((S.nx + e4.add.length) + e5.add.length) (Eff.hp e5 (S.nx + e4.add.length) (Eff.hp e4 S.nx S.hp))), (((S.nx + e4.add.length) + e5.add.length) + e6.add.length), S.gh⟩)))))) fun K hK => ?_
    repeat' (first | (refine hK _ ?_; clear hK K) | ((first | refine xG_intro (fun hg => ?_) (fun hg => ?_) | refine fun (hg : (_ : Prop)) => ?_) <;> ((try simp only [BQ] at hg); try (exfalso; omega))) | refine And.intro ?_ ?_ | exact cl | refine one_take ?_ _ | refine one_drop ?_ _ | refine .inl ⟨_, _, Text_pure l (5 * i) hl (by omega) (by omega), ?_⟩ | refine ⟨_, _, Text_pure l (5 * i) hl (by omega) (by omega), ?_⟩ | (refine st ?_; try simp only [hw5, textsN_len]) | simp only [hw5, textsN_len])
    all_goals try simp (disch := omega) only [wrap_id, wrap8_id]
    all_goals
    refine rY [0, 1, 5, 6] (fun P S K => XvBinOV P .add 3 (.const (.int .i64 1)) (S.get 6) (.atom (.int .i64 1)) (fun r1 _ => K ⟨[(0, S.get 0), (1, S.get 1), (5, S.get 5), (6, r1)], S.hp, S.nx, S.gh⟩)) ?_
    all_goals try simp (disch := omega) only [wrap_id, wrap8_id]
    all_goals
    refine ⟨⟨i + 1, by unfold textC; omega⟩, [2], by dsimp only; omega, ?_⟩
    dsimp only
    rw [textsN]
    exact leqW23
   ·try (cases h16; done)
    all_goals (try simp only [CQ] at h16)
    all_goals
    refine Tri.exit ?_
    refine sY [4] (fun P S K => K ⟨[(4, (S.get 5))], S.hp, S.nx, S.gh⟩) ?_
    all_goals
    refine Tri.ret ?_
    show ResOk _ _ _ _
    have hfin : textC l.length most = i := by unfold textC; omega
    rw [hfin]
    exact ResOk.row 0 rfl lelW23 lpuW23 lsrW23
theorem noOb_madeV (k : Int) : (madeV k).noOb = true := by unfold madeV; split <;> rfl
def zeroS : SpecD := ⟨false, [], false, []⟩
def zeroP : PV := .agg [.atom (.bool false), .atom (.slice none 0 0), .atom (.bool false), .atom (.slice none 0 0)]
theorem zero_spec : IsSpec zeroS zeroP := ⟨_, _, rfl, .inr ⟨rfl, rfl⟩, .inr ⟨rfl, rfl⟩⟩
def specsL (l : List Int) (how by_ : Int) : List PV := [madeP l, encSpec (spoiltS (madeS l) how by_), encSpec (spoiltS (spoiltS (madeS l) how by_) by_ how), zeroP]
theorem specsL_len (l : List Int) (how by_ : Int) : (specsL l how by_).length = 4 := rfl
theorem specsL_pure (l : List Int) (how by_ : Int) : pureL (specsL l how by_) = true := by simp [specsL, pureL, pure_spec, madeP, zeroP, PV.pure, pure_madeV, pure_strs]
theorem specsL_is (l : List Int) (how by_ : Int) {i : Nat} (hi : i < 4) : ∃ s, Fit 1000 s ∧ IsSpec s ((specsL l how by_).getD i .junk) := by
  have up : ∀ {n : Nat} {s : SpecD}, Fit n s → n ≤ 1000 → Fit 1000 s := fun h hn => ⟨Nat.le_trans h.skip hn, Nat.le_trans h.order hn, h.skips, h.orders⟩
  match i, hi with
  | 0, _ => exact ⟨_, up (made_fit l) (by decide), made_spec l⟩
  | 1, _ => exact ⟨_, up (spoilt_fit (made_fit l) how by_) (by decide), .self _⟩
  | 2, _ => exact ⟨_, up (spoilt_fit (spoilt_fit (made_fit l) how by_) by_ how) (by decide), .self _⟩
  | 3, _ => exact ⟨zeroS, ⟨by decide, by decide, by decide, by decide⟩, zero_spec⟩
theorem specs_pure (l : List Int) (how by_ : Int) (hl : Fits l) (hh : I64 how) (hb : I64 by_) : Pure Tryd.prog 9 [ints l, encI how, encI by_] (.sl 4 (specsL l how by_)) [] := by
  have hf1 := made_fit l
  have hf2 := spoilt_fit hf1 how by_
  refine Pure.intro (ts := [6]) Tryd.func9 (by kernel_rfl) rfl rfl rfl (Nat.le_of_ble_eq_true rfl) ?_ ?_
  · simp [pure_ints, pure_strs, encI, encS, PV.pure, pureL]
  refine sZ [0, 1, 2] (fun P S K => K ⟨[(0, S.get 0), (1, S.get 1), (2, S.get 2)], S.hp, S.nx, S.gh⟩) fun K hK => ?_
  repeat' (first | (refine hK _ ?_; clear hK K) | ((first | refine xG_intro (fun hg => ?_) (fun hg => ?_) | refine fun (hg : (_ : Prop)) => ?_) <;> ((try simp only [BQ] at hg); try (exfalso; omega))) | refine And.intro ?_ ?_ | exact cl | exact one_madeV _ | refine one_take ?_ _ | refine one_drop ?_ _ | (refine st ?_; try simp only [encSpec, madeP, ren_madeV, sealed_madeV, noOb_madeV]) | simp only [encSpec, madeP, ren_madeV, sealed_madeV, noOb_madeV])
  all_goals
  refine sZ [1, 2, 7] (fun P S K => XvFnIV P (M S.hp S.nx) (.fn 33 []) [(S.get 0)] (fun r1 e1 => XvAlloc P 35 (S.nx + e1.add.length) (fun r2 e2 => XvStore P 35 (M (Eff.hp e2 (S.nx + e1.add.length) (Eff.hp e1 S.nx S.hp)) ((S.nx + e1.add.length) + e2.add.length)) r2 r1 (fun r3 e3 => K ⟨[(1, S.get 1), (2, S.get 2), (7, r2)], (Eff.hp e3 ((S.nx + e1.add.length) + e2.add.length) (Eff.hp e2 (S.nx + e1.add.length) (Eff.hp e1 S.nx S.hp))), (((S.nx + e1.add.length) + e2.add.length) + e3.add.length), S.gh⟩)))) fun K hK => ?_
  repeat' (first | (refine hK _ ?_; clear hK K) | ((first | refine xG_intro (fun hg => ?_) (fun hg => ?_) | refine fun (hg : (_ : Prop)) => ?_) <;> ((try simp only [BQ] at hg); try (exfalso; omega))) | refine And.intro ?_ ?_ | exact cl | exact one_madeV _ | refine one_take ?_ _ | refine one_drop ?_ _ | refine .inl ⟨_, _, Made_pure l hl, ?_⟩ | refine ⟨_, _, Made_pure l hl, ?_⟩ | (refine st ?_; try simp only [encSpec, madeP, ren_madeV, sealed_madeV, noOb_madeV]) | simp only [encSpec, madeP, ren_madeV, sealed_madeV, noOb_madeV])
  all_goals
  refine sZ [1, 2, 7, 8] (fun P S K => XvLoad P 35 (M S.hp S.nx) (S.get 7) (fun r0 _ => XvFnIV P (M S.hp S.nx) (.fn 38 []) [r0, (S.get 1), (S.get 2)] (fun r3 e3 => XvAlloc P 35 (S.nx + e3.add.length) (fun r4 e4 => XvStore P 35 (M (Eff.hp e4 (S.nx + e3.add.length) (Eff.hp e3 S.nx S.hp)) ((S.nx + e3.add.length) + e4.add.length)) r4 r3 (fun r5 e5 => K ⟨[(1, S.get 1), (2, S.get 2), (7, S.get 7), (8, r4)], (Eff.hp e5 ((S.nx + e3.add.length) + e4.add.length) (Eff.hp e4 (S.nx + e3.add.length) (Eff.hp e3 S.nx S.hp))), (((S.nx + e3.add.length) + e4.add.length) + e5.add.length), S.gh⟩))))) fun K hK => ?_
  repeat' (first | (refine hK _ ?_; clear hK K) | ((first | refine xG_intro (fun hg => ?_) (fun hg => ?_) | refine fun (hg : (_ : Prop)) => ?_) <;> ((try simp only [BQ] at hg); try (exfalso; omega))) | refine And.intro ?_ ?_ | exact cl | exact one_madeV _ | refine one_take ?_ _ | refine one_drop ?_ _ | refine .inl ⟨_, _, (Spoilt_pure (madeS l) how by_ (hf1.sane (by decide)) hh hb).spec (made_spec l), ?_⟩ | refine ⟨_, _, (Spoilt_pure (madeS l) how by_ (hf1.sane (by decide)) hh hb).spec (made_spec l), ?_⟩ | refine .inl ⟨_, _, Spoilt_pure (spoiltS (madeS l) how by_) by_ how (hf2.sane (by decide)) hb hh, ?_⟩ | refine ⟨_, _, Spoilt_pure (spoiltS (madeS l) how by_) by_ how (hf2.sane (by decide)) hb hh, ?_⟩ | (refine st ?_; try simp only [encSpec, madeP, ren_madeV, sealed_madeV, noOb_madeV]) | simp only [encSpec, madeP, ren_madeV, sealed_madeV, noOb_madeV])
  all_goals
  refine sD 9 [6] (fun P GD S K => XvLoad P 35 (M S.hp S.nx) (S.get 7) (fun r0 e0 => XvLoad P 35 (M S.hp S.nx) (S.get 8) (fun r1 e1 => XvLoad P 35 (M S.hp S.nx) (S.get 8) (fun r2 e2 => XvFnV P (M S.hp S.nx) (.fn 38 []) [r2, (S.get 2), (S.get 1)] (fun r5 e5 => XvBuild P 35 [] (fun r6 e6 => XvBuildS P 23 4 (S.nx + e5.add.length) [(0, r0), (1, r1), (2, r5), (3, r6)] (fun r7 e7 => (trOk S.nx GD [⟨S.nx, 0, e0.rd, [], []⟩, ⟨S.nx, 0, e1.rd, [], []⟩, ⟨S.nx, 0, e2.rd, [], []⟩, ⟨S.nx, 0, [], [], []⟩, ⟨S.nx, 0, [], [], []⟩, (Eff.tr e5 S.nx), ⟨(S.nx + e5.add.length), 0, e6.rd, [], []⟩, (Eff.tr e7 (S.nx + e5.add.length)), ⟨((S.nx + e5.add.length) + e7.add.length), 0, [], [], []⟩] = true ∧ K ⟨[(6, r7)], (Eff.hp e7 (S.nx + e5.add.length) (Eff.hp e5 S.nx S.hp)), ((S.nx + e5.add.length) + e7.add.length), S.gh⟩)))))))) fun K hK => ?_
  repeat' (first | (refine hK _ ?_; clear hK K) | (refine (?_ : trOk _ _ _ = true); kernel_rfl) | ((first | refine xG_intro (fun hg => ?_) (fun hg => ?_) | refine fun (hg : (_ : Prop)) => ?_) <;> ((try simp only [BQ] at hg); try (exfalso; omega))) | refine And.intro ?_ ?_ | exact cl | exact one_madeV _ | refine one_take ?_ _ | refine one_drop ?_ _ | refine .inl ⟨_, _, (Spoilt_pure (madeS l) how by_ (hf1.sane (by decide)) hh hb).spec (made_spec l), ?_⟩ | refine ⟨_, _, (Spoilt_pure (madeS l) how by_ (hf1.sane (by decide)) hh hb).spec (made_spec l), ?_⟩ | refine .inl ⟨_, _, Spoilt_pure (spoiltS (madeS l) how by_) by_ how (hf2.sane (by decide)) hb hh, ?_⟩ | refine ⟨_, _, Spoilt_pure (spoiltS (madeS l) how by_) by_ how (hf2.sane (by decide)) hb hh, ?_⟩ | (refine st ?_; try simp only [encSpec, madeP, ren_madeV, sealed_madeV, noOb_madeV]) | simp only [encSpec, madeP, ren_madeV, sealed_madeV, noOb_madeV])
  all_goals
  refine Tri.ret ?_
  show ResOk _ _ _ _
  exact ResOk.frz 5 (seal_row rfl rfl rfl (specsL_pure l how by_)) (specsL_pure l how by_)
end Go.Proofs.YtfnkciboencifaaDoor
set_option linter.all false
namespace Go.Proofs.YtfnkciboencifaaDoor
open Go Go.RowKit
set_option linter.unusedSimpArgs false
set_option linter.unusedVariables false
set_option maxRecDepth 20000
set_option maxHeartbeats 400000
def zeroB (k : Nat) : ByteArray := ⟨(List.map pvByte (List.replicate k (.atom (.int .u8 0)))).toArray⟩
theorem zeroB_size (k : Nat) : (zeroB k).size = k := by show (List.toArray _).size = k; simp
theorem rep_byte (k : Nat) : (List.replicate k (PV.atom (.int .u8 0))).all isByte = true := by simp [isByte]
theorem short_size (s : ByteArray) (n : Nat) : (s.extract 0 (min s.size n)).size ≤ n := by rw [ByteArray.size_extract]; omega
abbrev PureL := {L : List PV // pureL L = true}
theorem pure_slP (L : PureL) : (PV.sl 4 L.1).pure = true := L.2
theorem renL_of {L : List PV} (h : pureL L = true) (ρ : Nat → Nat) : renL ρ L = L := by
  have := ren_pure ρ (.sl 4 L) h
  rw [PV.ren] at this
  injection this
theorem renL_PL (ρ : Nat → Nat) (L : PureL) : renL ρ L.1 = L.1 := renL_of L.2 ρ
theorem renL_specsL (ρ : Nat → Nat) (l : List Int) (how by_ : Int) : renL ρ (specsL l how by_) = specsL l how by_ := renL_of (specsL_pure l how by_) ρ
theorem AsSl.reach {sz : Nat} {l : List PV} {x : PV} (h : AsSl sz l x) (H : Nat → Option AO) (n : Nat) : reach H n x = [] := by
  cases n with
  | zero => rfl
  | succ n => rcases h with rfl | ⟨_, rfl⟩ <;> rfl
end Go.Proofs.YtfnkciboencifaaDoor
set_option linter.all false
namespace Go.Proofs.YtfnkciboencifaaDoor
open Go Go.RowKit
set_option linter.unusedSimpArgs false
set_option linter.unusedVariables false
set_option maxRecDepth 20000
set_option maxHeartbeats 400000
def bigR (x : PV) : List PV := List.replicate 4097 x
theorem rep4097 (x : PV) : List.replicate (Int.toNat 4097) x = bigR x := rfl
theorem bigR_len (x : PV) : (bigR x).length = 4097 := by unfold bigR; exact List.length_replicate
theorem bigR_byte : (bigR (PV.atom (.int .u8 0))).all isByte = true := rep_byte 4097
theorem bigR_eq : (⟨(List.map pvByte (bigR (.atom (.int .u8 0)))).toArray⟩ : ByteArray) = zeroB 4097 := rfl
end Go.Proofs.YtfnkciboencifaaDoor
set_option linter.all false
namespace Go.Proofs.YtfnkciboencifaaDoor
open Go Go.RowKit
set_option linter.unusedSimpArgs false
set_option linter.unusedVariables false
set_option maxRecDepth 20000
set_option maxHeartbeats 400000
theorem leqW32 {p : Prop} (h : p := by (refine ⟨4, ?_, ?_, rfl, by simp, rfl, fun _ h _ => absurd h (Nat.not_lt_zero _)⟩ <;> (simp only [List.forall_mem_cons]; repeat' (first | refine And.intro ?_ ?_ | (intro p hp; exact absurd hp List.not_mem_nil) | rfl | exact sp (pure_spec _) | exact sp (pure_paths _) | exact (sealed_pure _ _ _ (pure_ints _)).trans (ren_ints _ _).symm | exact (sealed_pure _ _ _ (pure_strs _)).trans (ren_strs _ _).symm | exact sp (by assumption) | (intro o ho; cases ho; refine ⟨by decide, ?_⟩; first | (refine LeqS.row rfl ?_ ?_; (next => (first | rfl | (simp only [List.map_append, List.map_cons, List.map_nil, List.append_nil, List.nil_append, List.append_assoc, List.cons_append, encI, encS, ints, strs]; done) | (simp [encI, encS, ints, strs, paths, qN, pN]; done))); (next => (first | rfl | exact pureL_encI _ | exact pureL_encS _ | exact pureL_ints _ | exact pureL_strs _ | (simp [pureL_append, pureL_encI, pureL_encS, pureL_ints, pureL_strs, pureL, PV.pure, pure_ints, pure_strs, pure_spec, pure_paths, pureL_strs]; done))); done) | refine ⟨_, rfl, rfl, ?_⟩) | (simp [St.born, St.known, retV, St.get, St.obj, lk, sealed, PV.ren, renL, rmap, AO.ren, ints, strs, encI, encS, map_sealed_encI, map_sealed_encS, map_sealed_ints, map_sealed_strs, map_ren_encI, map_ren_encS, map_ren_ints, map_ren_strs, renL_encI, renL_encS, renL_ints, renL_strs, ren_spec, paths, take_map_len, qN_len, pN_len, take_qN, take_pN] <;> omega))))) : p := h
theorem lstW32 {p : Prop} (h : p := by (first | rfl | (simp [St.born, St.known, retV, St.get, St.obj, lk, sealed, PV.ren, renL, rmap, AO.ren, ints, strs, encI, encS, map_sealed_encI, map_sealed_encS, map_sealed_ints, map_sealed_strs, map_ren_encI, map_ren_encS, map_ren_ints, map_ren_strs, renL_encI, renL_encS, renL_ints, renL_strs, ren_spec, paths, take_map_len, qN_len, pN_len, take_qN, take_pN, take_map_len, List.take_length]; done))) : p := h
theorem lpvW32 {p : Prop} (h : p := by (first | rfl | (simp [pure_ints, pure_strs, PV.pure, pureL, pureL_encI, pureL_encS, pureL_ints, pureL_strs, pure_spec, pure_paths, pureL_strs]; done))) : p := h
def qN (B : List ByteArray) (m : List Int) (i : Nat) : Nat → List ByteArray
  | 0 => []
  | k + 1 => qN B m i k ++ [ls B (atI m ((i : Int) + 1 + k) B.length).toNat]
def pathAt (B : List ByteArray) (m : List Int) (i : Nat) : List ByteArray := qN B m i (if B.length = 0 then 0 else (atI m i 4).toNat)
def pN (B : List ByteArray) (m : List Int) : Nat → List (List ByteArray)
  | 0 => []
  | i + 1 => pN B m i ++ [pathAt B m i]
theorem qN_len (B : List ByteArray) (m : List Int) (i : Nat) : ∀ k, (qN B m i k).length = k
  | 0 => rfl
  | k + 1 => by simp [qN, qN_len B m i k]
theorem pN_len (B : List ByteArray) (m : List Int) : ∀ k, (pN B m k).length = k
  | 0 => rfl
  | k + 1 => by simp [pN, pN_len B m k]
theorem take_qN (B : List ByteArray) (m : List Int) (i k : Nat) : ((qN B m i k).map encS).take k = (qN B m i k).map encS := List.take_of_length_le (by rw [List.length_map, qN_len]; exact Nat.le_refl _)
theorem take_pN (B : List ByteArray) (m : List Int) (k : Nat) : ((pN B m k).map strs).take k = (pN B m k).map strs := List.take_of_length_le (by rw [List.length_map, pN_len]; exact Nat.le_refl _)
theorem qN_mem {B : List ByteArray} {m : List Int} {i : Nat} (hB : 0 < B.length) : ∀ (k : Nat) {x : ByteArray}, x ∈ qN B m i k → x ∈ B
  | 0, x, h => by cases h
  | k + 1, x, h => by
    rcases List.mem_append.1 h with h | h
    · exact qN_mem hB k h
    · rw [List.mem_singleton.1 h]
      have h1 := atI_lo (l := m) (i := (i : Int) + 1 + k) (m := B.length) (by omega)
      have h2 := atI_hi (l := m) (i := (i : Int) + 1 + k) (m := B.length) (by omega)
      exact ls_mem (by omega)
theorem pathAt_ok (B : List ByteArray) (m : List Int) (i : Nat) : (pathAt B m i).length ≤ 4 ∧ ∀ x, x ∈ pathAt B m i → x ∈ B := by
  unfold pathAt
  split
  · exact ⟨by rw [qN_len]; omega, fun x h => by cases h⟩
  · have h2 := atI_hi (l := m) (i := i) (m := 4) (by decide)
    exact ⟨by rw [qN_len]; omega, fun x h => qN_mem (by omega) _ h⟩
theorem pN_ok {B : List ByteArray} {m : List Int} : ∀ (k : Nat) {p : List ByteArray}, p ∈ pN B m k → p.length ≤ 4 ∧ ∀ x, x ∈ p → x ∈ B
  | 0, p, h => by cases h
  | k + 1, p, h => by
    rcases List.mem_append.1 h with h | h
    · exact pN_ok k h
    · rw [List.mem_singleton.1 h]; exact pathAt_ok B m k
theorem lpaths_pure (B : List ByteArray) (m : List Int) (hB : B.length ≤ 1000000) (hm : Fits m) : Pure Tryd.prog 22 [strs B, ints m] (paths (pN B m (min m.length 9))) [] := by
  have hml := hm.2
  refine Pure.intro (ts := [4]) Tryd.func22 (by kernel_rfl) rfl rfl rfl (Nat.le_of_ble_eq_true rfl) ?_ ?_
  · simp [encI, PV.pure, pure_ints, pure_strs, pureL]
  refine sY [0, 1] (fun P S K => K ⟨[(0, S.get 0), (1, S.get 1)], S.hp, S.nx, S.gh⟩) ?_
  all_goals
  refine sY [0, 1, 5] (fun P S K => K ⟨[(0, S.get 0), (1, S.get 1), (5, (.atom (.slice none 0 0)))], S.hp, S.nx, S.gh⟩) ?_
  refine Tri.born 5 1 rfl ?_
  all_goals
  refine Tri.seq ?_
  refine sY [0, 1, 5, 6] (fun P S K => K ⟨[(0, S.get 0), (1, S.get 1), (5, S.get 5), (6, (.atom (.int .i64 0)))], S.hp, S.nx, S.gh⟩) ?_
  all_goals
  refine Tri.block ?_
  refine Tri.loop (α := (i : Nat) ×' (i ≤ min m.length 9)) (fun z => (fun (i : Nat) => (⟨[(0, strs B), (1, ints m), (5, .ob 0 1 0 i), (6, encI i)], [(0, some ⟨1, (pN B m i).map strs⟩)], 1, []⟩ : St)) z.1) (fun z => (fun (i : Nat) => 9 - i) z.1) ⟨0, Nat.zero_le _⟩ [0] ?_ ?_
  ·exact leqW32
  ·rintro ⟨i, hi⟩
   have hpl := pN_len B m i
   refine Tri.seq ?_
   refine sZ [0, 1, 5, 6, 17] (fun P S K => XvLen P 22 (S.get 1) (fun r2 _ => XvBinOV P .lss 3 (.tmp 12) (S.get 6) r2 (fun r3 _ => Xgq r3 true (fun k => k (S.get 6)) (fun g5 r5 => Xgq g5 true (fun k => XvBinOV P .lss 3 (.const (.int .i64 9)) r5 (.atom (.int .i64 9)) (fun r6 _ => k r6)) (fun g6 r6 => XvPick g6 r6 (.atom (.bool false)) (fun r7 _ => K ⟨[(0, S.get 0), (1, S.get 1), (5, S.get 5), (6, S.get 6), (17, r7)], S.hp, S.nx, S.gh⟩)))))) fun K hK => ?_
   repeat' (first | (refine hK _ ?_; clear hK K) | ((first | refine xG_intro (fun hg => ?_) (fun hg => ?_) | refine fun (hg : (_ : Prop)) => ?_) <;> ((try simp only [BQ] at hg); try (exfalso; omega))) | refine And.intro ?_ ?_ | exact cl | refine one_take ?_ _ | refine one_drop ?_ _ | (refine st ?_; try simp only [paths, qN_len, pN_len, take_qN, take_pN]) | simp only [paths, qN_len, pN_len, take_qN, take_pN])
   all_goals
   refine Tri.cond rfl (fun h17 => ?_) (fun h17 => ?_)
   ·try (cases h17; done)
    all_goals (try simp only [CQ] at h17)
    all_goals
    refine Tri.skip ?_
    refine Tri.seq ?_
    refine Tri.block ?_
    have hi2 : i < min m.length 9 := by omega
    have ha1 := atI_lo (l := m) (i := i) (m := 4) (by decide)
    have ha2 := atI_hi (l := m) (i := i) (m := 4) (by decide)
    refine sY [0, 1, 5, 6, 7] (fun P S K => K ⟨[(0, S.get 0), (1, S.get 1), (5, S.get 5), (6, S.get 6), (7, (.atom (.slice none 0 0)))], S.hp, S.nx, S.gh⟩) ?_
    refine Tri.born 7 1 rfl ?_
    all_goals
    refine sZ [0, 1, 5, 6, 7, 8] (fun P S K => XvFnIV P (M S.hp S.nx) (.fn 50 []) [(S.get 1), (S.get 6), (.atom (.int .i64 4))] (fun r2 e2 => K ⟨[(0, S.get 0), (1, S.get 1), (5, S.get 5), (6, S.get 6), (7, S.get 7), (8, r2)], (Eff.hp e2 S.nx S.hp), (S.nx + e2.add.length), S.gh⟩)) fun K hK => ?_
    repeat' (first | (refine hK _ ?_; clear hK K) | ((first | refine xG_intro (fun hg => ?_) (fun hg => ?_) | refine fun (hg : (_ : Prop)) => ?_) <;> ((try simp only [BQ] at hg); try (exfalso; omega))) | refine And.intro ?_ ?_ | exact cl | refine one_take ?_ _ | refine one_drop ?_ _ | refine .inl ⟨_, _, At_pure m i 4 hm (by unfold I64; omega) (by decide), ?_⟩ | refine ⟨_, _, At_pure m i 4 hm (by unfold I64; omega) (by decide), ?_⟩ | refine .inl ⟨_, _, At_pure m ((i : Int) + 1 + k) B.length hm (by unfold I64; omega) (by omega), ?_⟩ | refine ⟨_, _, At_pure m ((i : Int) + 1 + k) B.length hm (by unfold I64; omega) (by omega), ?_⟩ | (refine st ?_; try simp only [paths, qN_len, pN_len, take_qN, take_pN]) | simp only [paths, qN_len, pN_len, take_qN, take_pN])
    all_goals
    refine Tri.cut (α := Unit) (fun ⟨⟩ => ⟨[(0, strs B), (1, ints m), (5, .ob 0 1 0 i), (6, encI i), (7, strs (pathAt B m i))], [(0, some ⟨1, (pN B m i).map strs⟩)], 1, []⟩) ?_ ?_
    ·skip
     refine sY [0, 1, 5, 6, 7, 8, 9] (fun P S K => K ⟨[(0, S.get 0), (1, S.get 1), (5, S.get 5), (6, S.get 6), (7, S.get 7), (8, S.get 8), (9, (.atom (.int .i64 0)))], S.hp, S.nx, S.gh⟩) ?_
     all_goals
     refine Tri.block ?_
     refine Tri.loop (α := (k : Nat) ×' ((k : Int) ≤ atI m i 4 ∧ (B.length = 0 → k = 0))) (fun z => (fun (k : Nat) => (⟨[(0, strs B), (1, ints m), (5, .ob 0 1 0 i), (6, encI i), (7, .ob 1 1 0 k), (8, encI (atI m i 4)), (9, encI k)], [(0, some ⟨1, (pN B m i).map strs⟩), (1, some ⟨1, (qN B m i k).map encS⟩)], 2, []⟩ : St)) z.1) (fun z => (fun (k : Nat) => 4 - k) z.1) ⟨0, ⟨ha1, fun _ => rfl⟩⟩ [0, 1] ?_ ?_
     ·exact leqW32
     ·rintro ⟨k, ⟨hk, hk2⟩⟩
      have hql := qN_len B m i k
      refine Tri.seq ?_
      refine sZ [0, 1, 5, 6, 7, 8, 9, 30] (fun P S K => XvBinOV P .lss 3 (.tmp 24) (S.get 9) (S.get 8) (fun r2 _ => Xgq r2 true (fun k => k (S.get 0)) (fun g4 r4 => Xgq g4 true (fun k => XvLen P 25 r4 (fun r5 _ => k r5)) (fun g5 r5 => Xgq g5 true (fun k => XvBinOV P .gtr 3 (.const (.int .i64 0)) r5 (.atom (.int .i64 0)) (fun r6 _ => k r6)) (fun g6 r6 => XvPick g6 r6 (.atom (.bool false)) (fun r7 _ => K ⟨[(0, S.get 0), (1, S.get 1), (5, S.get 5), (6, S.get 6), (7, S.get 7), (8, S.get 8), (9, S.get 9), (30, r7)], S.hp, S.nx, S.gh⟩)))))) fun K hK => ?_
      repeat' (first | (refine hK _ ?_; clear hK K) | ((first | refine xG_intro (fun hg => ?_) (fun hg => ?_) | refine fun (hg : (_ : Prop)) => ?_) <;> ((try simp only [BQ] at hg); try (exfalso; omega))) | refine And.intro ?_ ?_ | exact cl | refine one_take ?_ _ | refine one_drop ?_ _ | (refine st ?_; try simp only [paths, qN_len, pN_len, take_qN, take_pN]) | simp only [paths, qN_len, pN_len, take_qN, take_pN])
      all_goals
      refine Tri.cond rfl (fun h30 => ?_) (fun h30 => ?_)
      ·try (cases h30; done)
       all_goals (try simp only [CQ] at h30)
       all_goals
       refine Tri.skip ?_
       refine Tri.seq ?_
       refine Tri.block ?_
       have hBp : 0 < B.length := by omega
       have hb1 := atI_lo (l := m) (i := (i : Int) + 1 + k) (m := B.length) (by omega)
       have hb2 := atI_hi (l := m) (i := (i : Int) + 1 + k) (m := B.length) (by omega)
       refine rZ [0, 1, 5, 6, 7, 8, 9] (fun P S K => XvBinOV P .add 3 (.const (.int .i64 1)) (S.get 6) (.atom (.int .i64 1)) (fun r4 _ => XvBinOV P .add 3 (.tmp 38) r4 (S.get 9) (fun r6 _ => XvLen P 25 (S.get 0) (fun r8 _ => XvFnIV P (M S.hp S.nx) (.fn 50 []) [(S.get 1), r6, r8] (fun r9 e9 => XvIndexAddr P 25 (S.get 0) r9 (fun r10 _ => XvLoad P 9 (M (Eff.hp e9 S.nx S.hp) (S.nx + e9.add.length)) r10 (fun r11 _ => XvBuildS P 25 1 (S.nx + e9.add.length) [(0, r11)] (fun r12 e12 => (25 = 25 ∧ XvAppend P 25 (M (Eff.hp e12 (S.nx + e9.add.length) (Eff.hp e9 S.nx S.hp)) ((S.nx + e9.add.length) + e12.add.length)) (S.get 7) r12 (fun r13 e13 => K ⟨[(0, S.get 0), (1, S.get 1), (5, S.get 5), (6, S.get 6), (7, r13), (8, S.get 8), (9, S.get 9)], (Eff.hp e13 ((S.nx + e9.add.length) + e12.add.length) (Eff.hp e12 (S.nx + e9.add.length) (Eff.hp e9 S.nx S.hp))), (((S.nx + e9.add.length) + e12.add.length) + e13.add.length), S.gh⟩)))))))))) fun K hK => ?_
       repeat' (first | (refine hK _ ?_; clear hK K) | ((first | refine xG_intro (fun hg => ?_) (fun hg => ?_) | refine fun (hg : (_ : Prop)) => ?_) <;> ((try simp only [BQ] at hg); try (exfalso; omega))) | refine And.intro ?_ ?_ | exact cl | refine one_take ?_ _ | refine one_drop ?_ _ | refine .inl ⟨_, _, At_pure m i 4 hm (by unfold I64; omega) (by decide), ?_⟩ | refine ⟨_, _, At_pure m i 4 hm (by unfold I64; omega) (by decide), ?_⟩ | refine .inl ⟨_, _, At_pure m ((i : Int) + 1 + k) B.length hm (by unfold I64; omega) (by omega), ?_⟩ | refine ⟨_, _, At_pure m ((i : Int) + 1 + k) B.length hm (by unfold I64; omega) (by omega), ?_⟩ | (refine st ?_; try simp only [paths, qN_len, pN_len, take_qN, take_pN, wrap_id (x := ((i : Int) + 1)) (by omega) (by omega), wrap_id (x := ((i : Int) + 1 + k)) (by omega) (by omega), getD_encS (show (atI m ((i : Int) + 1 + k) B.length).toNat < B.length by omega)]) | simp only [paths, qN_len, pN_len, take_qN, take_pN, wrap_id (x := ((i : Int) + 1)) (by omega) (by omega), wrap_id (x := ((i : Int) + 1 + k)) (by omega) (by omega), getD_encS (show (atI m ((i : Int) + 1 + k) B.length).toNat < B.length by omega)])
       all_goals try simp (disch := omega) only [wrap_id, wrap8_id]
       all_goals
       refine rY [0, 1, 5, 6, 7, 8, 9] (fun P S K => XvBinOV P .add 3 (.const (.int .i64 1)) (S.get 9) (.atom (.int .i64 1)) (fun r1 _ => K ⟨[(0, S.get 0), (1, S.get 1), (5, S.get 5), (6, S.get 6), (7, S.get 7), (8, S.get 8), (9, r1)], S.hp, S.nx, S.gh⟩)) ?_
       all_goals try simp (disch := omega) only [wrap_id, wrap8_id]
       all_goals
       refine ⟨⟨k + 1, by omega, by omega⟩, [0, 3], by dsimp only; omega, ?_⟩
       exact leqW32
      ·try (cases h30; done)
       all_goals (try simp only [CQ] at h30)
       all_goals
       refine Tri.exit ?_
       have hkk : pathAt B m i = qN B m i k := by { unfold pathAt; congr 1; split <;> omega }; rw [hkk]
       refine ⟨(), [0], ?_⟩
       exact leqW32
    ·rintro ⟨⟩
     refine rZ [0, 1, 5, 6] (fun P S K => XvBuildS P 47 1 S.nx [(0, (S.get 7))] (fun r2 e2 => (47 = 47 ∧ XvAppend P 47 (M (Eff.hp e2 S.nx S.hp) (S.nx + e2.add.length)) (S.get 5) r2 (fun r3 e3 => K ⟨[(0, S.get 0), (1, S.get 1), (5, r3), (6, S.get 6)], (Eff.hp e3 (S.nx + e2.add.length) (Eff.hp e2 S.nx S.hp)), ((S.nx + e2.add.length) + e3.add.length), S.gh⟩)))) fun K hK => ?_
     repeat' (first | (refine hK _ ?_; clear hK K) | ((first | refine xG_intro (fun hg => ?_) (fun hg => ?_) | refine fun (hg : (_ : Prop)) => ?_) <;> ((try simp only [BQ] at hg); try (exfalso; omega))) | refine And.intro ?_ ?_ | exact cl | refine one_take ?_ _ | refine one_drop ?_ _ | (refine st ?_; try simp only [paths, qN_len, pN_len, take_qN, take_pN]) | simp only [paths, qN_len, pN_len, take_qN, take_pN])
     all_goals
     refine rY [0, 1, 5, 6] (fun P S K => XvBinOV P .add 3 (.const (.int .i64 1)) (S.get 6) (.atom (.int .i64 1)) (fun r1 _ => K ⟨[(0, S.get 0), (1, S.get 1), (5, S.get 5), (6, r1)], S.hp, S.nx, S.gh⟩)) ?_
     all_goals try simp (disch := omega) only [wrap_id, wrap8_id]
     all_goals
     refine ⟨⟨i + 1, by omega⟩, [2], by dsimp only; omega, ?_⟩
     exact leqW32
   ·try (cases h17; done)
    all_goals (try simp only [CQ] at h17)
    all_goals
    refine Tri.exit ?_
    obtain rfl : i = min m.length 9 := by omega
    refine sY [4] (fun P S K => K ⟨[(4, (S.get 5))], S.hp, S.nx, S.gh⟩) ?_
    all_goals
    refine Tri.ret ?_
    show ResOk _ _ _ _
    exact ResOk.frz 5 lstW32 lpvW32
end Go.Proofs.YtfnkciboencifaaDoor
set_option linter.all false
namespace Go.Proofs.YtfnkciboencifaaDoor
open Go Go.RowKit
set_option linter.unusedSimpArgs false
set_option linter.unusedVariables false
set_option maxRecDepth 20000
set_option maxHeartbeats 4000000
theorem leqW33 {p : Prop} (h : p := by (refine ⟨4, ?_, ?_, rfl, by simp, rfl, fun _ h _ => absurd h (Nat.not_lt_zero _)⟩ <;> (simp only [List.forall_mem_cons]; repeat' (first | refine And.intro ?_ ?_ | (intro p hp; exact absurd hp List.not_mem_nil) | rfl | exact sp (pure_slP _) | exact sp (pure_paths _) | exact (sealed_pure _ _ _ (pure_ints _)).trans (ren_ints _ _).symm | exact (sealed_pure _ _ _ (pure_strs _)).trans (ren_strs _ _).symm | exact sp (by assumption) | (intro o ho; cases ho; refine ⟨by decide, ?_⟩; first | (refine LeqS.row rfl ?_ ?_; (next => (first | rfl | (simp only [List.map_append, List.map_cons, List.map_nil, List.append_nil, List.nil_append, List.append_assoc, List.cons_append, encI, encS, ints, strs]; done) | (simp [encI, encS, ints, strs, textsN, strs]; done))); (next => (first | rfl | exact pureL_encI _ | exact pureL_encS _ | exact pureL_ints _ | exact pureL_strs _ | (simp [pureL_append, pureL_encI, pureL_encS, pureL_ints, pureL_strs, pureL, PV.pure, pure_ints, pure_strs, pure_slP, pure_paths, pureL_strs]; done))); done) | refine ⟨_, rfl, rfl, ?_⟩) | (simp [St.born, St.known, retV, St.get, St.obj, lk, sealed, PV.ren, renL, rmap, AO.ren, ints, strs, encI, encS, map_sealed_encI, map_sealed_encS, map_sealed_ints, map_sealed_strs, map_ren_encI, map_ren_encS, map_ren_ints, map_ren_strs, renL_encI, renL_encS, renL_ints, renL_strs, renL_PL, renL_specsL, textsN_len, take_map_len, manyT_len, take_manyT, ren_paths] <;> omega))))) : p := h
theorem lsrW33 {p : Prop} (h : p := by (first | rfl | (simp [St.born, St.known, retV, St.get, St.obj, lk, sealed, PV.ren, renL, rmap, AO.ren, ints, strs, encI, encS, map_sealed_encI, map_sealed_encS, map_sealed_ints, map_sealed_strs, map_ren_encI, map_ren_encS, map_ren_ints, map_ren_strs, renL_encI, renL_encS, renL_ints, renL_strs, renL_PL, renL_specsL, textsN_len, take_map_len, manyT_len, take_manyT, ren_paths]; done))) : p := h
theorem lpvW33 {p : Prop} (h : p := by (first | rfl | (simp [pure_ints, pure_strs, PV.pure, pureL, pureL_encI, pureL_encS, pureL_ints, pureL_strs, pure_slP, pure_paths, pureL_strs]; done))) : p := h
def usualD : SpecD := ⟨true, [⟨#[116, 104, 101]⟩], true, [⟨#[97, 65]⟩, ⟨#[98, 66]⟩, ⟨#[99, 67]⟩, ⟨#[100, 68]⟩, ⟨#[101, 69]⟩, ⟨#[102, 70]⟩, ⟨#[103, 71]⟩, ⟨#[104, 72]⟩, ⟨#[105, 73]⟩, ⟨#[106, 74]⟩, ⟨#[107, 75]⟩, ⟨#[108, 76]⟩, ⟨#[109, 77]⟩, ⟨#[110, 78]⟩, ⟨#[111, 79]⟩, ⟨#[112, 80]⟩, ⟨#[113, 81]⟩, ⟨#[114, 82]⟩, ⟨#[115, 83]⟩, ⟨#[116, 84]⟩, ⟨#[117, 85]⟩, ⟨#[118, 86]⟩, ⟨#[119, 87]⟩, ⟨#[120, 88]⟩, ⟨#[121, 89]⟩, ⟨#[122, 90]⟩]⟩
theorem usual_pure : Pure Tryd.prog 28 [] (encSpec usualD) [] :=
  Pure.freeze (run_pure (x := (uS, [], uhp)) tblC_ok mixed run_usual rfl) 4 (by kernel_rfl) (pure_spec _)
theorem usual_valid : validE usualD = 0 := (validD_eq usualD).symm.trans (by decide +kernel)
theorem usual_tame : Tame usualD := ⟨by decide +kernel, by decide +kernel⟩
theorem sort_wide {w : ByteArray} (h : w.size = 4097) : Pure Tryd.prog 23 [encSpec usualD, strs [⟨#[97]⟩, w]] (.tup [.sl 1 [], encI 4]) [] := by
  have hx : ∃ x, x ∈ [(⟨#[97]⟩ : ByteArray), w] ∧ 4096 < x.size := ⟨w, by simp, by omega⟩
  have hp := cSort_pure usualD [⟨#[97]⟩, w] usual_tame (by simp) (fun x hx => by
    rcases List.mem_cons.1 hx with rfl | hx
    · decide
    · rw [List.mem_singleton.1 hx]; omega) (.inl (by simp))
  rw [(sortE_long usual_valid (by simp) hx).1, (sortE_long usual_valid (by simp) hx).2] at hp
  exact hp
theorem paths_wide {w : ByteArray} (h : w.size = 4097) : Pure Tryd.prog 25 [encSpec usualD, paths [[⟨#[97]⟩], [⟨#[97]⟩, w]]] (.tup [.sl 1 [], encI 4]) [] := by
  have hx : ∃ p, p ∈ [[(⟨#[97]⟩ : ByteArray)], [⟨#[97]⟩, w]] ∧ ∃ x, x ∈ p ∧ 4096 < x.size := ⟨[⟨#[97]⟩, w], by simp, w, by simp, by omega⟩
  have ha : (⟨#[97]⟩ : ByteArray).size ≤ 9223372036854775807 := by decide
  have hp := cPaths_pure usualD [[⟨#[97]⟩], [⟨#[97]⟩, w]] usual_tame (by simp) (by simp) (by simp; omega) (.inl (by simp))
  rw [(pathsE_long usual_valid (by simp) hx).1, (pathsE_long usual_valid (by simp) hx).2] at hp
  exact hp
def manyT (n : Nat) : List ByteArray := List.replicate n ⟨#[]⟩
def manyP (n : Nat) : List (List ByteArray) := List.replicate n []
theorem manyT_len (n : Nat) : (manyT n).length = n := List.length_replicate
theorem manyP_len (n : Nat) : (manyP n).length = n := List.length_replicate
theorem manyT_mem {n : Nat} {x : ByteArray} (h : x ∈ manyT n) : x = ⟨#[]⟩ := (List.mem_replicate.1 h).2
theorem manyP_mem {n : Nat} {x : List ByteArray} (h : x ∈ manyP n) : x = [] := (List.mem_replicate.1 h).2
theorem manyT_enc (n : Nat) : (manyT n).map encS = List.replicate n (.atom (.string ⟨#[]⟩)) := by simp [manyT, encS]
theorem take_manyT (n : Nat) : ((manyT n).map encS).take n = (manyT n).map encS := List.take_of_length_le (by rw [List.length_map, manyT_len]; exact Nat.le_refl _)
noncomputable def wantE (s : SpecD) (n : Nat) : Int := if validE s = 0 ∧ 1000 < n then 4 else validE s
theorem wantT {s : SpecD} {n : Nat} : sortE s (manyT n) = wantE s n := by
  unfold wantE
  by_cases hv : validE s = 0
  · by_cases hn : 1000 < n
    · rw [if_pos ⟨hv, hn⟩]; exact (sortE_many hv (by rw [manyT_len]; exact hn)).1
    · rw [if_neg (fun h => hn h.2), hv]
      refine (sortE_ok hv (by rw [manyT_len]; exact hn) ?_).1
      rintro ⟨x, h1, h2⟩
      rw [manyT_mem h1] at h2; exact absurd h2 (by decide)
  · rw [if_neg (fun h => hv h.1)]; exact (sortE_bad hv).1
theorem wantP {s : SpecD} {n : Nat} : pathsE s (manyP n) = wantE s n := by
  unfold wantE
  by_cases hv : validE s = 0
  · by_cases hn : 1000 < n
    · rw [if_pos ⟨hv, hn⟩]; exact (pathsE_many hv (by rw [manyP_len]; exact hn)).1
    · rw [if_neg (fun h => hn h.2), hv]
      refine (pathsE_ok hv (by rw [manyP_len]; exact hn) ?_).1
      rintro ⟨p, h1, x, h2, h3⟩
      rw [manyP_mem h1] at h2; cases h2
  · rw [if_neg (fun h => hv h.1)]; exact (pathsE_bad hv).1
theorem manyP_rep {D : Nat → Prop} {μ : Nat → Option Nat} {F : Nat → Prop} {w : World} {n : Nat} {v : Value} (h : Rep D μ F w (.sl 1 (List.replicate n nilV)) v) : Rep D μ F w (paths (manyP n)) v := by
  unfold paths manyP
  rw [List.map_replicate]
  generalize hA : List.replicate n nilV = A at h
  have hAl : A.length = n := by rw [← hA]; exact List.length_replicate
  cases h with
  | sl0 _ a cap hc hn hs =>
    have hn0 : n = 0 := by simpa using hAl.symm
    subst hn0
    exact .sl0 1 a cap hc hn hs
  | sl _ _ b off cap g hF hlc hc hcell h1 h2 =>
    have hl : (List.replicate n (strs [])).length = A.length := by rw [List.length_replicate, hAl]
    rw [← hl]
    refine .sl 1 _ b off cap g hF (by rw [hl]; exact hlc) hc (fun j hj => hcell j (by rw [← hl]; exact hj)) (fun k hk => by simp [strs, PV.cells]) fun k hk c hcc => ?_
    have hk' : k < A.length := by rw [← hl]; exact hk
    have e0 : (List.replicate n (strs []))[k] = strs [] := List.getElem_replicate ..
    have e1 : A[k] = nilV := by subst hA; exact List.getElem_replicate ..
    have hc0 : c = 0 := by rw [e0] at hcc; simpa [strs, PV.cells] using hcc
    subst hc0
    have hcA : 0 < A[k].cells.length := by rw [e1]; exact Nat.zero_lt_one
    have hr := h2 k hk' 0 hcA
    have e2 : A[k].cells[0] = nilV := by have := e1; simp [e1, nilV, PV.cells]
    rw [e2] at hr
    have e3 : (List.replicate n (strs []))[k].cells[0] = strs [] := by simp [strs, PV.cells]
    rw [e3, hr.atomEq]
    exact .sl0 1 none 0 (Nat.zero_le _) (fun _ => rfl) (fun x hx => by cases hx)
theorem foldl_insS_len (s : SpecD) : ∀ (l out : List ByteArray), (l.foldl (insS s) out).length = out.length + l.length
  | [], out => rfl
  | x :: l, out => by rw [List.foldl_cons, foldl_insS_len s l]; unfold insS; rw [insAt_len, List.length_cons]; omega
theorem sortR_len (s : SpecD) (l : List ByteArray) : (sortR s l).length ≤ l.length := by
  unfold sortR
  split
  · unfold sortS; rw [foldl_insS_len]; simp
  · simp
theorem pathsR_le (s : SpecD) (l : List (List ByteArray)) : (pathsR s l).length ≤ l.length := by
  by_cases h : pathsE s l = 0
  · rw [pathsR_len h]; exact Nat.le_refl _
  · unfold pathsR; rw [if_neg h]; exact Nat.zero_le _
theorem reach_rep {H : Nat → Option AO} {n N : Nat} {v : Value} : (List.replicate N (PV.atom v)).flatMap (reach H n) = [] := by
  rw [List.flatMap_eq_nil_iff]
  intro x hx
  rw [(List.mem_replicate.1 hx).2]
  cases n <;> rfl
theorem seal_nils (H : Nat → Option AO) (keep : Nat → Bool) (n N : Nat) (v : Value) : (List.take N (List.replicate N (PV.atom v))).map (sealed H keep n) = List.replicate N (.atom v) := by
  rw [List.take_of_length_le (by rw [List.length_replicate]; exact Nat.le_refl _), List.map_replicate]
  cases n <;> rfl
theorem manyPaths {s : SpecD} (hs : Tame s) {N : Nat} (hN : N ≤ 1000000) :
    (wantE s N = 0 ∧ Pure Tryd.prog 25 [encSpec s, .sl 1 (List.replicate N nilV)] (.tup [.ob 0 1 0 N, encI (wantE s N)]) [⟨1, (pathsR s (manyP N)).map encI⟩]) ∨
    (wantE s N ≠ 0 ∧ Pure Tryd.prog 25 [encSpec s, .sl 1 (List.replicate N nilV)] (.tup [.sl 1 [], encI (wantE s N)]) []) := by
  have h := cPaths_own s (manyP N) hs (by rw [manyP_len]; exact hN) (fun p hp => by rw [manyP_mem hp]; exact Nat.zero_le _) (fun p hp x hx => by rw [manyP_mem hp] at hx; cases hx) (.inr fun x hx y hy => (manyP_mem hx).trans (manyP_mem hy).symm)
  rw [wantP, manyP_len] at h
  have h2 : ∀ {r os}, Pure Tryd.prog 25 [encSpec s, paths (manyP N)] r os → Pure Tryd.prog 25 [encSpec s, .sl 1 (List.replicate N nilV)] r os := fun hp => hp.sub rfl fun i h1 h2 D μ F w v hr => by
    match i, h1 with
    | 0, _ => exact hr
    | 1, _ => exact manyP_rep hr
  by_cases hw : wantE s N = 0
  · rw [if_pos hw, if_pos hw] at h
    rw [hw]
    exact .inl ⟨rfl, h2 h⟩
  · rw [if_neg hw, if_neg hw] at h
    exact .inr ⟨hw, h2 h⟩
theorem sorts_pure (l : List Int) (how by_ : Int) (m : List Int) (raw : List ByteArray) (long : Int) (hl : Fits l) (hh : I64 how) (hb : I64 by_) (hm : Fits m) (hraw : raw.length ≤ 9223372036854775807) (hlong : I64 long) :
    Pure Tryd.prog 5 [ints l, encI how, encI by_, ints m, strs raw, encI long] (.atom (.bool true)) [] := by
  have h91 := around_lo (n := long) (most := 9) (by decide)
  have h92 := around_hi (n := long) (most := 9) (by decide)
  have htc : textC m.length 9 ≤ 9 := by unfold textC; omega
  obtain ⟨N, hN⟩ : ∃ N : Nat, (N : Int) = 996 + around long 9 := ⟨(996 + around long 9).toNat, by omega⟩
  have hwN : IntKind.i64.wrap (996 + around long 9) = (N : Int) := by rw [wrap_id (by omega) (by omega), hN]
  refine Pure.intro (ts := [12]) Tryd.func5 (by kernel_rfl) rfl rfl rfl (Nat.le_of_ble_eq_true rfl) ?_ ?_
  · simp [encI, PV.pure, pure_ints, pure_strs, pureL]
  refine sZ [0, 1, 2, 3, 4, 5] (fun P S K => K ⟨[(0, S.get 0), (1, S.get 1), (2, S.get 2), (3, S.get 3), (4, S.get 4), (5, S.get 5)], S.hp, S.nx, S.gh⟩) fun K hK => ?_
  repeat' (first | (refine hK _ ?_; clear hK K) | ((first | refine xG_intro (fun hg => ?_) (fun hg => ?_) | refine fun (hg : (_ : Prop)) => ?_) <;> ((try simp only [BQ] at hg); try (exfalso; omega))) | refine And.intro ?_ ?_ | exact cl | exact bigR_byte | exact flat_encI _ | refine one_take ?_ _ | refine one_drop ?_ _ | (refine st ?_; try simp only [renL_PL, renL_specsL, encSpec, paths, zeroB_size, dec_self, beq_self_eq_true]) | simp only [renL_PL, renL_specsL, encSpec, paths, zeroB_size, dec_self, beq_self_eq_true])
  all_goals
  refine sZ [3, 4, 5, 13] (fun P S K => XvFnIV P (M S.hp S.nx) (.fn 9 []) [(S.get 0), (S.get 1), (S.get 2)] (fun r3 e3 => K ⟨[(3, S.get 3), (4, S.get 4), (5, S.get 5), (13, r3)], (Eff.hp e3 S.nx S.hp), (S.nx + e3.add.length), S.gh⟩)) fun K hK => ?_
  repeat' (first | (refine hK _ ?_; clear hK K) | ((first | refine xG_intro (fun hg => ?_) (fun hg => ?_) | refine fun (hg : (_ : Prop)) => ?_) <;> ((try simp only [BQ] at hg); try (exfalso; omega))) | refine And.intro ?_ ?_ | exact cl | exact bigR_byte | exact flat_encI _ | refine one_take ?_ _ | refine one_drop ?_ _ | refine .inl ⟨_, _, specs_pure l how by_ hl hh hb, ?_⟩ | refine ⟨_, _, specs_pure l how by_ hl hh hb, ?_⟩ | refine .inl ⟨_, _, hP, ?_⟩ | refine ⟨_, _, hP, ?_⟩ | (refine st ?_; try simp only [renL_PL, renL_specsL, encSpec, paths, zeroB_size, dec_self, beq_self_eq_true]) | simp only [renL_PL, renL_specsL, encSpec, paths, zeroB_size, dec_self, beq_self_eq_true])
  have hlen0 := specsL_len l how by_
  have his0 : ∀ i, i < 4 → ∃ s, Fit 1000 s ∧ IsSpec s ((specsL l how by_).getD i .junk) := fun i hi => specsL_is l how by_ hi
  obtain ⟨LP, hLP⟩ : ∃ LP : PureL, LP.1 = specsL l how by_ := ⟨⟨_, specsL_pure l how by_⟩, rfl⟩
  rw [← hLP] at hlen0 his0 ⊢
  have hlen : LP.1.length = 4 := hlen0
  have his := his0
  all_goals
  refine sZ [3, 4, 5, 13, 14] (fun P S K => XvFnIV P (M S.hp S.nx) (.fn 10 []) [(S.get 3), (.atom (.int .i64 9))] (fun r1 e1 => K ⟨[(3, S.get 3), (4, S.get 4), (5, S.get 5), (13, S.get 13), (14, r1)], (Eff.hp e1 S.nx S.hp), (S.nx + e1.add.length), S.gh⟩)) fun K hK => ?_
  repeat' (first | (refine hK _ ?_; clear hK K) | ((first | refine xG_intro (fun hg => ?_) (fun hg => ?_) | refine fun (hg : (_ : Prop)) => ?_) <;> ((try simp only [BQ] at hg); try (exfalso; omega))) | refine And.intro ?_ ?_ | exact cl | exact bigR_byte | exact flat_encI _ | refine one_take ?_ _ | refine one_drop ?_ _ | refine .inl ⟨_, _, texts_pure m 9 hm (by decide) (by decide), ?_⟩ | refine ⟨_, _, texts_pure m 9 hm (by decide) (by decide), ?_⟩ | refine .inl ⟨_, _, hP, ?_⟩ | refine ⟨_, _, hP, ?_⟩ | (refine st ?_; try simp only [renL_PL, renL_specsL, encSpec, paths, zeroB_size, dec_self, beq_self_eq_true]) | simp only [renL_PL, renL_specsL, encSpec, paths, zeroB_size, dec_self, beq_self_eq_true])
  all_goals
  refine Tri.seq ?_
  refine sZ [3, 4, 5, 13, 14, 15] (fun P S K => K ⟨[(3, S.get 3), (4, S.get 4), (5, S.get 5), (13, S.get 13), (14, S.get 14), (15, (.atom (.int .i64 0)))], S.hp, S.nx, S.gh⟩) fun K hK => ?_
  repeat' (first | (refine hK _ ?_; clear hK K) | ((first | refine xG_intro (fun hg => ?_) (fun hg => ?_) | refine fun (hg : (_ : Prop)) => ?_) <;> ((try simp only [BQ] at hg); try (exfalso; omega))) | refine And.intro ?_ ?_ | exact cl | exact bigR_byte | exact flat_encI _ | refine one_take ?_ _ | refine one_drop ?_ _ | (refine st ?_; try simp only [renL_PL, renL_specsL, encSpec, paths, zeroB_size, dec_self, beq_self_eq_true]) | simp only [renL_PL, renL_specsL, encSpec, paths, zeroB_size, dec_self, beq_self_eq_true])
  all_goals
  refine Tri.block ?_
  refine Tri.loop (α := (B : List ByteArray) ×' (k : Nat) ×' (k ≤ raw.length ∧ k ≤ 3 ∧ B.length ≤ 9 + k ∧ ∀ x, x ∈ B → x.size ≤ 5000)) (fun z => (fun (B : List ByteArray) (k : Nat) => (⟨[(3, ints m), (4, strs raw), (5, encI long), (13, .sl 4 LP.1), (14, .ob 0 1 0 B.length), (15, encI k)], [(0, some ⟨1, B.map encS⟩)], 1, []⟩ : St)) z.1 z.2.1) (fun z => (fun (B : List ByteArray) (k : Nat) => 3 - k) z.1 z.2.1) ⟨textsN m (textC m.length 9), 0, ⟨Nat.zero_le _, by omega, by rw [textsN_len]; omega, fun x hx => by have := textsN_size m _ x hx; omega⟩⟩ [0] ?_ ?_
  ·exact leqW33
  ·rintro ⟨B, k, ⟨hk1, hk2, hBl, hBs⟩⟩
   refine Tri.seq ?_
   refine sZ [3, 4, 5, 13, 14, 15, 46] (fun P S K => XvLen P 25 (S.get 4) (fun r2 _ => XvBinOV P .lss 3 (.tmp 41) (S.get 15) r2 (fun r3 _ => Xgq r3 true (fun k => k (S.get 15)) (fun g5 r5 => Xgq g5 true (fun k => XvBinOV P .lss 3 (.const (.int .i64 3)) r5 (.atom (.int .i64 3)) (fun r6 _ => k r6)) (fun g6 r6 => XvPick g6 r6 (.atom (.bool false)) (fun r7 _ => K ⟨[(3, S.get 3), (4, S.get 4), (5, S.get 5), (13, S.get 13), (14, S.get 14), (15, S.get 15), (46, r7)], S.hp, S.nx, S.gh⟩)))))) fun K hK => ?_
   repeat' (first | (refine hK _ ?_; clear hK K) | ((first | refine xG_intro (fun hg => ?_) (fun hg => ?_) | refine fun (hg : (_ : Prop)) => ?_) <;> ((try simp only [BQ] at hg); try (exfalso; omega))) | refine And.intro ?_ ?_ | exact cl | exact bigR_byte | exact flat_encI _ | refine one_take ?_ _ | refine one_drop ?_ _ | (refine st ?_; try simp only [renL_PL, renL_specsL, encSpec, paths, zeroB_size, dec_self, beq_self_eq_true]) | simp only [renL_PL, renL_specsL, encSpec, paths, zeroB_size, dec_self, beq_self_eq_true])
   all_goals
   refine Tri.cond rfl (fun h46 => ?_) (fun h46 => ?_)
   ·try (cases h46; done)
    all_goals (try simp only [CQ] at h46)
    all_goals
    refine Tri.skip ?_
    refine Tri.seq ?_
    refine Tri.block ?_
    have hkr : k < raw.length := by omega
    refine rZ [3, 4, 5, 13, 14, 15] (fun P S K => XvIndexAddr P 25 (S.get 4) (S.get 15) (fun r3 _ => XvLoad P 9 (M S.hp S.nx) r3 (fun r4 _ => XvFnIV P (M S.hp S.nx) (.fn 11 []) [r4, (.atom (.int .i64 60))] (fun r5 e5 => XvBuildS P 25 1 (S.nx + e5.add.length) [(0, r5)] (fun r6 e6 => (25 = 25 ∧ XvAppend P 25 (M (Eff.hp e6 (S.nx + e5.add.length) (Eff.hp e5 S.nx S.hp)) ((S.nx + e5.add.length) + e6.add.length)) (S.get 14) r6 (fun r7 e7 => K ⟨[(3, S.get 3), (4, S.get 4), (5, S.get 5), (13, S.get 13), (14, r7), (15, S.get 15)], (Eff.hp e7 ((S.nx + e5.add.length) + e6.add.length) (Eff.hp e6 (S.nx + e5.add.length) (Eff.hp e5 S.nx S.hp))), (((S.nx + e5.add.length) + e6.add.length) + e7.add.length), S.gh⟩))))))) fun K hK => ?_
    repeat' (first | (refine hK _ ?_; clear hK K) | ((first | refine xG_intro (fun hg => ?_) (fun hg => ?_) | refine fun (hg : (_ : Prop)) => ?_) <;> ((try simp only [BQ] at hg); try (exfalso; omega))) | refine And.intro ?_ ?_ | exact cl | exact bigR_byte | exact flat_encI _ | refine one_take ?_ _ | refine one_drop ?_ _ | refine .inl ⟨_, _, Short_pure (ls raw k) 60 (by decide), ?_⟩ | refine ⟨_, _, Short_pure (ls raw k) 60 (by decide), ?_⟩ | refine .inl ⟨_, _, hP, ?_⟩ | refine ⟨_, _, hP, ?_⟩ | (refine st ?_; try simp only [renL_PL, renL_specsL, encSpec, paths, zeroB_size, dec_self, beq_self_eq_true, getD_encS hkr]) | simp only [renL_PL, renL_specsL, encSpec, paths, zeroB_size, dec_self, beq_self_eq_true, getD_encS hkr])
    all_goals
    refine rZ [3, 4, 5, 13, 14, 15] (fun P S K => XvBinOV P .add 3 (.const (.int .i64 1)) (S.get 15) (.atom (.int .i64 1)) (fun r1 _ => K ⟨[(3, S.get 3), (4, S.get 4), (5, S.get 5), (13, S.get 13), (14, S.get 14), (15, r1)], S.hp, S.nx, S.gh⟩)) fun K hK => ?_
    repeat' (first | (refine hK _ ?_; clear hK K) | ((first | refine xG_intro (fun hg => ?_) (fun hg => ?_) | refine fun (hg : (_ : Prop)) => ?_) <;> ((try simp only [BQ] at hg); try (exfalso; omega))) | refine And.intro ?_ ?_ | exact cl | exact bigR_byte | exact flat_encI _ | refine one_take ?_ _ | refine one_drop ?_ _ | (refine st ?_; try simp only [renL_PL, renL_specsL, encSpec, paths, zeroB_size, dec_self, beq_self_eq_true]) | simp only [renL_PL, renL_specsL, encSpec, paths, zeroB_size, dec_self, beq_self_eq_true])
    all_goals try simp (disch := omega) only [wrap_id, wrap8_id]
    all_goals
    refine ⟨⟨B ++ [(ls raw k).extract 0 (min (ls raw k).size 60)], k + 1, by omega, by omega, by rw [List.length_append]; simp; omega, fun x hx => ?_⟩, [2], by dsimp only; omega, ?_⟩
    · rcases List.mem_append.1 hx with hx | hx
      · exact hBs x hx
      · rw [List.mem_singleton.1 hx]; have := short_size (ls raw k) 60; omega
    · exact leqW33
   ·try (cases h46; done)
    all_goals (try simp only [CQ] at h46)
    all_goals
    refine Tri.exit ?_
    refine Tri.cut (α := Unit) (fun ⟨⟩ => ⟨[(3, ints m), (13, .sl 4 LP.1), (14, strs B), (16, strs (manyT N))], [], 0, []⟩) ?_ ?_
    ·skip
     refine rZ [3, 13, 14, 16] (fun P S K => XvFnIV P (M S.hp S.nx) (.fn 12 []) [(S.get 5), (.atom (.int .i64 9))] (fun r1 e1 => XvBinOV P .add 3 (.tmp 58) (.atom (.int .i64 996)) r1 (fun r2 _ => XvMake P 25 (M (Eff.hp e1 S.nx S.hp) (S.nx + e1.add.length)) r2 r2 (fun r3 e3 => K ⟨[(3, S.get 3), (13, S.get 13), (14, S.get 14), (16, r3)], (Eff.hp e3 (S.nx + e1.add.length) (Eff.hp e1 S.nx S.hp)), ((S.nx + e1.add.length) + e3.add.length), S.gh⟩)))) fun K hK => ?_
     repeat' (first | (refine hK _ ?_; clear hK K) | ((first | refine xG_intro (fun hg => ?_) (fun hg => ?_) | refine fun (hg : (_ : Prop)) => ?_) <;> ((try simp only [BQ] at hg); try (exfalso; omega))) | refine And.intro ?_ ?_ | exact cl | exact bigR_byte | exact flat_encI _ | refine one_take ?_ _ | refine one_drop ?_ _ | refine .inl ⟨_, _, Around_pure long 9 hlong (by decide), ?_⟩ | refine ⟨_, _, Around_pure long 9 hlong (by decide), ?_⟩ | refine .inl ⟨_, _, hP, ?_⟩ | refine ⟨_, _, hP, ?_⟩ | (refine st ?_; try simp only [renL_PL, renL_specsL, encSpec, paths, zeroB_size, dec_self, beq_self_eq_true, hwN]) | simp only [renL_PL, renL_specsL, encSpec, paths, zeroB_size, dec_self, beq_self_eq_true, hwN])
     all_goals try simp (disch := omega) only [wrap_id, wrap8_id]
     all_goals
     rw [← manyT_enc]
     refine ⟨(), [], ?_⟩
     exact leqW33
    ·rintro ⟨⟩
     have hB2 : B.length ≤ 1000000 := by omega
     have hB20 : B.length < 20 := by omega
     have hB4 : B.length ≤ 1000000000 := by omega
     have hB3 : ∀ x, x ∈ B → x.size ≤ 9223372036854775807 := fun x h => Nat.le_trans (hBs x h) (by decide)
     have hB5 : ∀ x, x ∈ B → x.size ≤ 4294967296 := fun x h => Nat.le_trans (hBs x h) (by decide)
     have hpl1 : (pN B m (min m.length 9)).length ≤ 9 := by rw [pN_len]; omega
     have hok : ∀ p, p ∈ pN B m (min m.length 9) → p.length ≤ 4 ∧ ∀ x, x ∈ p → x ∈ B := fun p hp => pN_ok _ hp
     refine sZ [13, 14, 16, 17] (fun P S K => XvFnIV P (M S.hp S.nx) (.fn 22 []) [(S.get 14), (S.get 3)] (fun r2 e2 => K ⟨[(13, S.get 13), (14, S.get 14), (16, S.get 16), (17, r2)], (Eff.hp e2 S.nx S.hp), (S.nx + e2.add.length), S.gh⟩)) fun K hK => ?_
     repeat' (first | (refine hK _ ?_; clear hK K) | ((first | refine xG_intro (fun hg => ?_) (fun hg => ?_) | refine fun (hg : (_ : Prop)) => ?_) <;> ((try simp only [BQ] at hg); try (exfalso; omega))) | refine And.intro ?_ ?_ | exact cl | exact bigR_byte | exact flat_encI _ | refine one_take ?_ _ | refine one_drop ?_ _ | refine .inl ⟨_, _, lpaths_pure B m hB2 hm, ?_⟩ | refine ⟨_, _, lpaths_pure B m hB2 hm, ?_⟩ | refine .inl ⟨_, _, hP, ?_⟩ | refine ⟨_, _, hP, ?_⟩ | (refine st ?_; try simp only [renL_PL, renL_specsL, encSpec, paths, zeroB_size, dec_self, beq_self_eq_true]) | simp only [renL_PL, renL_specsL, encSpec, paths, zeroB_size, dec_self, beq_self_eq_true])
     generalize pN B m (min m.length 9) = pl at hpl1 hok ⊢
     have hpl2 : pl.length ≤ 1000000 := by omega
     have hpl20 : pl.length < 20 := by omega
     have hpl5 : pl.length ≤ 1000000000 := by omega
     have hpl3 : ∀ p, p ∈ pl → p.length ≤ 1000000 := fun p hp => Nat.le_trans (hok p hp).1 (by decide)
     have hpl6 : ∀ p, p ∈ pl → p.length ≤ 1000000000 := fun p hp => Nat.le_trans (hok p hp).1 (by decide)
     have hpl4 : ∀ p, p ∈ pl → ∀ x, x ∈ p → x.size ≤ 9223372036854775807 := fun p hp x hx => hB3 x ((hok p hp).2 x hx)
     have hpl7 : ∀ p, p ∈ pl → ∀ x, x ∈ p → x.size ≤ 4294967296 := fun p hp x hx => hB5 x ((hok p hp).2 x hx)
     have hmt1 : (manyT N).length ≤ 1000000 := by rw [manyT_len]; omega
     have hmt2 : ∀ x, x ∈ manyT N → x.size ≤ 9223372036854775807 := fun x hx => by rw [manyT_mem hx]; decide
     have hmt3 : ∀ x, x ∈ manyT N → ∀ y, y ∈ manyT N → x = y := fun x hx y hy => (manyT_mem hx).trans (manyT_mem hy).symm
     all_goals
     refine Tri.seq ?_
     refine sZ [13, 14, 16, 17, 18] (fun P S K => K ⟨[(13, S.get 13), (14, S.get 14), (16, S.get 16), (17, S.get 17), (18, (.atom (.int .i64 0)))], S.hp, S.nx, S.gh⟩) fun K hK => ?_
     repeat' (first | (refine hK _ ?_; clear hK K) | ((first | refine xG_intro (fun hg => ?_) (fun hg => ?_) | refine fun (hg : (_ : Prop)) => ?_) <;> ((try simp only [BQ] at hg); try (exfalso; omega))) | refine And.intro ?_ ?_ | exact cl | exact bigR_byte | exact flat_encI _ | refine one_take ?_ _ | refine one_drop ?_ _ | (refine st ?_; try simp only [renL_PL, renL_specsL, encSpec, paths, zeroB_size, dec_self, beq_self_eq_true]) | simp only [renL_PL, renL_specsL, encSpec, paths, zeroB_size, dec_self, beq_self_eq_true])
     all_goals
     refine Tri.block ?_
     refine Tri.loop (α := (i : Nat) ×' (i ≤ 4)) (fun z => (fun (i : Nat) => (⟨[(13, .sl 4 LP.1), (14, strs B), (16, strs (manyT N)), (17, paths pl), (18, encI i)], [], 0, []⟩ : St)) z.1) (fun z => (fun (i : Nat) => 4 - i) z.1) ⟨0, Nat.zero_le _⟩ [] ?_ ?_
     ·exact leqW33
     ·rintro ⟨i, hi⟩
      refine Tri.seq ?_
      refine sZ [13, 14, 16, 17, 18, 67] (fun P S K => XvLen P 23 (S.get 13) (fun r2 _ => XvBinOV P .lss 3 (.tmp 66) (S.get 18) r2 (fun r3 _ => K ⟨[(13, S.get 13), (14, S.get 14), (16, S.get 16), (17, S.get 17), (18, S.get 18), (67, r3)], S.hp, S.nx, S.gh⟩))) fun K hK => ?_
      repeat' (first | (refine hK _ ?_; clear hK K) | ((first | refine xG_intro (fun hg => ?_) (fun hg => ?_) | refine fun (hg : (_ : Prop)) => ?_) <;> ((try simp only [BQ] at hg); try (exfalso; omega))) | refine And.intro ?_ ?_ | exact cl | exact bigR_byte | exact flat_encI _ | refine one_take ?_ _ | refine one_drop ?_ _ | (refine st ?_; try simp only [renL_PL, renL_specsL, encSpec, paths, zeroB_size, dec_self, beq_self_eq_true]) | simp only [renL_PL, renL_specsL, encSpec, paths, zeroB_size, dec_self, beq_self_eq_true])
      all_goals
      refine Tri.cond rfl (fun h67 => ?_) (fun h67 => ?_)
      ·try (cases h67; done)
       all_goals (try simp only [CQ] at h67)
       all_goals
       refine Tri.skip ?_
       refine Tri.seq ?_
       refine Tri.block ?_
       have hi4 : i < 4 := by omega
       obtain ⟨sp, hfit, sv, ov, hx, hsv, hov⟩ := his i hi4
       have hsp : IsSpec sp (.agg [.atom (.bool sp.words), sv, .atom (.bool sp.numbers), ov]) := ⟨sv, ov, rfl, hsv, hov⟩
       have hsane := hfit.sane (by decide)
       have htame := hsane.tame
       have hp1 := hsv.pure (pureL_encS _)
       have hp2 := hov.pure (pureL_encS _)
       have r1 : ∀ ρ, sv.ren ρ = sv := fun ρ => ren_pure ρ _ hp1
       have r2 : ∀ ρ, ov.ren ρ = ov := fun ρ => ren_pure ρ _ hp2
       have s1 : ∀ H keep n, sealed H keep n sv = sv := fun H k n => sealed_pure H k n hp1
       have s2 : ∀ H keep n, sealed H keep n ov = ov := fun H k n => sealed_pure H k n hp2
       have q1 := hsv.reach
       have q2 := hov.reach
       have o1 : sv.noOb = true := pure_noOb _ hp1
       have o2 : ov.noOb = true := pure_noOb _ hp2
       have hsl : (sortR sp B).length ≤ 9223372036854775807 := Nat.le_trans (sortR_len _ _) (by omega)
       have hql : (pathsR sp pl).length ≤ 9223372036854775807 := Nat.le_trans (pathsR_le _ _) (by omega)
       have hPc := manyPaths htame (N := N) (by omega)
       refine sZ [13, 14, 16, 17, 18, 19, 20] (fun P S K => XvIndexAddr P 23 (S.get 13) (S.get 18) (fun r2 _ => XvLoad P 35 (M S.hp S.nx) r2 (fun r3 _ => XvFnIV P (M S.hp S.nx) (.fn 14 []) [r3] (fun r4 e4 => XvFnIV P (M (Eff.hp e4 S.nx S.hp) (S.nx + e4.add.length)) (.fn 23 []) [r4, (S.get 14)] (fun r6 e6 => XvExtract r6 0 (fun r8 _ => XvExtract r6 1 (fun r9 _ => K ⟨[(13, S.get 13), (14, S.get 14), (16, S.get 16), (17, S.get 17), (18, S.get 18), (19, r8), (20, r9)], (Eff.hp e6 (S.nx + e4.add.length) (Eff.hp e4 S.nx S.hp)), ((S.nx + e4.add.length) + e6.add.length), S.gh⟩))))))) fun K hK => ?_
       repeat' (first | (refine hK _ ?_; clear hK K) | ((first | refine xG_intro (fun hg => ?_) (fun hg => ?_) | refine fun (hg : (_ : Prop)) => ?_) <;> ((try simp only [BQ] at hg); try (exfalso; omega))) | refine And.intro ?_ ?_ | exact cl | exact bigR_byte | exact flat_encI _ | refine one_take ?_ _ | refine one_drop ?_ _ | refine .inl ⟨_, _, (own_pure sp).spec hsp, ?_⟩ | refine ⟨_, _, (own_pure sp).spec hsp, ?_⟩ | refine .inl ⟨_, _, cSort_pure sp B htame hB2 hB3 (.inl hB20), ?_⟩ | refine ⟨_, _, cSort_pure sp B htame hB2 hB3 (.inl hB20), ?_⟩ | refine .inl ⟨_, _, cSort_pure sp (manyT N) htame hmt1 hmt2 (.inr hmt3), ?_⟩ | refine ⟨_, _, cSort_pure sp (manyT N) htame hmt1 hmt2 (.inr hmt3), ?_⟩ | refine .inl ⟨_, _, hP, ?_⟩ | refine ⟨_, _, hP, ?_⟩ | refine .inl ⟨_, _, sort_wide (w := zeroB 4097) (zeroB_size 4097), ?_⟩ | refine ⟨_, _, sort_wide (w := zeroB 4097) (zeroB_size 4097), ?_⟩ | (refine st ?_; try simp only [renL_PL, renL_specsL, encSpec, paths, zeroB_size, dec_self, beq_self_eq_true, hx, hlen, r1, r2, s1, s2, o1, o2]) | simp only [renL_PL, renL_specsL, encSpec, paths, zeroB_size, dec_self, beq_self_eq_true, hx, hlen, r1, r2, s1, s2, o1, o2])
       all_goals
       refine sZ [13, 14, 16, 17, 18, 19, 20, 21, 22] (fun P S K => XvIndexAddr P 23 (S.get 13) (S.get 18) (fun r2 _ => XvLoad P 35 (M S.hp S.nx) r2 (fun r3 _ => XvFnIV P (M S.hp S.nx) (.fn 24 []) [r3, (S.get 14)] (fun r5 e5 => XvExtract r5 0 (fun r7 _ => XvExtract r5 1 (fun r8 _ => K ⟨[(13, S.get 13), (14, S.get 14), (16, S.get 16), (17, S.get 17), (18, S.get 18), (19, S.get 19), (20, S.get 20), (21, r7), (22, r8)], (Eff.hp e5 S.nx S.hp), (S.nx + e5.add.length), S.gh⟩)))))) fun K hK => ?_
       repeat' (first | (refine hK _ ?_; clear hK K) | ((first | refine xG_intro (fun hg => ?_) (fun hg => ?_) | refine fun (hg : (_ : Prop)) => ?_) <;> ((try simp only [BQ] at hg); try (exfalso; omega))) | refine And.intro ?_ ?_ | exact cl | exact bigR_byte | exact flat_encI _ | refine one_take ?_ _ | refine one_drop ?_ _ | refine .inl ⟨_, _, (rSort_pure sp B hsane hB4 hB5).spec hsp, ?_⟩ | refine ⟨_, _, (rSort_pure sp B hsane hB4 hB5).spec hsp, ?_⟩ | refine .inl ⟨_, _, hP, ?_⟩ | refine ⟨_, _, hP, ?_⟩ | (refine st ?_; try simp only [renL_PL, renL_specsL, encSpec, paths, zeroB_size, dec_self, beq_self_eq_true, hx, hlen, r1, r2, s1, s2, o1, o2]) | simp only [renL_PL, renL_specsL, encSpec, paths, zeroB_size, dec_self, beq_self_eq_true, hx, hlen, r1, r2, s1, s2, o1, o2])
       all_goals
       refine sZ [13, 14, 16, 17, 18, 19, 20, 21, 22, 23, 24] (fun P S K => XvIndexAddr P 23 (S.get 13) (S.get 18) (fun r2 _ => XvLoad P 35 (M S.hp S.nx) r2 (fun r3 _ => XvFnIV P (M S.hp S.nx) (.fn 14 []) [r3] (fun r4 e4 => XvFnIV P (M (Eff.hp e4 S.nx S.hp) (S.nx + e4.add.length)) (.fn 25 []) [r4, (S.get 17)] (fun r6 e6 => XvExtract r6 0 (fun r8 _ => XvExtract r6 1 (fun r9 _ => K ⟨[(13, S.get 13), (14, S.get 14), (16, S.get 16), (17, S.get 17), (18, S.get 18), (19, S.get 19), (20, S.get 20), (21, S.get 21), (22, S.get 22), (23, r8), (24, r9)], (Eff.hp e6 (S.nx + e4.add.length) (Eff.hp e4 S.nx S.hp)), ((S.nx + e4.add.length) + e6.add.length), S.gh⟩))))))) fun K hK => ?_
       repeat' (first | (refine hK _ ?_; clear hK K) | ((first | refine xG_intro (fun hg => ?_) (fun hg => ?_) | refine fun (hg : (_ : Prop)) => ?_) <;> ((try simp only [BQ] at hg); try (exfalso; omega))) | refine And.intro ?_ ?_ | exact cl | exact bigR_byte | exact flat_encI _ | refine one_take ?_ _ | refine one_drop ?_ _ | refine .inl ⟨_, _, (own_pure sp).spec hsp, ?_⟩ | refine ⟨_, _, (own_pure sp).spec hsp, ?_⟩ | refine .inl ⟨_, _, cPaths_pure sp pl htame hpl2 hpl3 hpl4 (.inl hpl20), ?_⟩ | refine ⟨_, _, cPaths_pure sp pl htame hpl2 hpl3 hpl4 (.inl hpl20), ?_⟩ | refine .inl ⟨_, _, hP, ?_⟩ | refine ⟨_, _, hP, ?_⟩ | refine .inl ⟨_, _, paths_wide (w := zeroB 4097) (zeroB_size 4097), ?_⟩ | refine ⟨_, _, paths_wide (w := zeroB 4097) (zeroB_size 4097), ?_⟩ | (refine st ?_; try simp only [renL_PL, renL_specsL, encSpec, paths, zeroB_size, dec_self, beq_self_eq_true, hx, hlen, r1, r2, s1, s2, o1, o2]) | simp only [renL_PL, renL_specsL, encSpec, paths, zeroB_size, dec_self, beq_self_eq_true, hx, hlen, r1, r2, s1, s2, o1, o2])
       all_goals
       refine sZ [13, 14, 16, 17, 18, 19, 20, 21, 22, 23, 24, 25, 26] (fun P S K => XvIndexAddr P 23 (S.get 13) (S.get 18) (fun r2 _ => XvLoad P 35 (M S.hp S.nx) r2 (fun r3 _ => XvFnIV P (M S.hp S.nx) (.fn 26 []) [r3, (S.get 17)] (fun r5 e5 => XvExtract r5 0 (fun r7 _ => XvExtract r5 1 (fun r8 _ => K ⟨[(13, S.get 13), (14, S.get 14), (16, S.get 16), (17, S.get 17), (18, S.get 18), (19, S.get 19), (20, S.get 20), (21, S.get 21), (22, S.get 22), (23, S.get 23), (24, S.get 24), (25, r7), (26, r8)], (Eff.hp e5 S.nx S.hp), (S.nx + e5.add.length), S.gh⟩)))))) fun K hK => ?_
       repeat' (first | (refine hK _ ?_; clear hK K) | ((first | refine xG_intro (fun hg => ?_) (fun hg => ?_) | refine fun (hg : (_ : Prop)) => ?_) <;> ((try simp only [BQ] at hg); try (exfalso; omega))) | refine And.intro ?_ ?_ | exact cl | exact bigR_byte | exact flat_encI _ | refine one_take ?_ _ | refine one_drop ?_ _ | refine .inl ⟨_, _, (rPaths_pure sp pl hsane hpl5 hpl6 hpl7).spec hsp, ?_⟩ | refine ⟨_, _, (rPaths_pure sp pl hsane hpl5 hpl6 hpl7).spec hsp, ?_⟩ | refine .inl ⟨_, _, hP, ?_⟩ | refine ⟨_, _, hP, ?_⟩ | (refine st ?_; try simp only [renL_PL, renL_specsL, encSpec, paths, zeroB_size, dec_self, beq_self_eq_true, hx, hlen, r1, r2, s1, s2, o1, o2]) | simp only [renL_PL, renL_specsL, encSpec, paths, zeroB_size, dec_self, beq_self_eq_true, hx, hlen, r1, r2, s1, s2, o1, o2])
       all_goals
       refine Tri.seq ?_
       refine sZ [13, 14, 16, 17, 18, 127] (fun P S K => XvBinOV P .neq 30 (.tmp 109) (S.get 20) (S.get 22) (fun r2 _ => Xgq r2 false (fun k => k (S.get 24)) (fun g4 r4 => Xgq g4 false (fun k => k (S.get 26)) (fun g5 r5 => Xgq g5 false (fun k => XvBinOV P .neq 30 (.tmp 113) r4 r5 (fun r6 _ => k r6)) (fun g6 r6 => XvPick g6 (.atom (.bool true)) r6 (fun r7 _ => Xgq r7 false (fun k => k (S.get 19)) (fun g9 r9 => Xgq g9 false (fun k => k (S.get 21)) (fun g10 r10 => Xge g10 false (fun k => XvFnIV P (M S.hp S.nx) (.fn 27 []) [r9, r10] k) (fun g11 r11 e11 => Xgq g11 false (fun k => XvUn .not r11 (fun r12 _ => k r12)) (fun g12 r12 => XvPick g12 (.atom (.bool true)) r12 (fun r13 _ => Xgq r13 false (fun k => k (S.get 23)) (fun g15 r15 => Xgq g15 false (fun k => k (S.get 25)) (fun g16 r16 => Xge g16 false (fun k => XvFnIV P (M (Eff.hp e11 S.nx S.hp) (S.nx + e11.add.length)) (.fn 18 []) [r15, r16] k) (fun g17 r17 e17 => Xgq g17 false (fun k => XvUn .not r17 (fun r18 _ => k r18)) (fun g18 r18 => XvPick g18 (.atom (.bool true)) r18 (fun r19 _ => K ⟨[(13, S.get 13), (14, S.get 14), (16, S.get 16), (17, S.get 17), (18, S.get 18), (127, r19)], (Eff.hp e17 (S.nx + e11.add.length) (Eff.hp e11 S.nx S.hp)), ((S.nx + e11.add.length) + e17.add.length), S.gh⟩)))))))))))))))) fun K hK => ?_
       repeat' (first | (refine hK _ ?_; clear hK K) | ((first | refine xG_intro (fun hg => ?_) (fun hg => ?_) | refine fun (hg : (_ : Prop)) => ?_) <;> ((try simp only [BQ] at hg); try (exfalso; omega))) | refine And.intro ?_ ?_ | exact cl | exact bigR_byte | exact flat_encI _ | refine one_take ?_ _ | refine one_drop ?_ _ | refine .inl ⟨_, _, SameTexts_pure (sortR sp B) (sortR sp B) hsl hsl, ?_⟩ | refine ⟨_, _, SameTexts_pure (sortR sp B) (sortR sp B) hsl hsl, ?_⟩ | refine .inl ⟨_, _, SameInts_pure (pathsR sp pl) (pathsR sp pl) hql hql, ?_⟩ | refine ⟨_, _, SameInts_pure (pathsR sp pl) (pathsR sp pl) hql hql, ?_⟩ | refine .inl ⟨_, _, hP, ?_⟩ | refine ⟨_, _, hP, ?_⟩ | (refine st ?_; try simp only [renL_PL, renL_specsL, encSpec, paths, zeroB_size, dec_self, beq_self_eq_true]) | simp only [renL_PL, renL_specsL, encSpec, paths, zeroB_size, dec_self, beq_self_eq_true])
       all_goals try simp (disch := omega) only [wrap_id, wrap8_id]
       all_goals
       refine Tri.cond rfl (fun h127 => ?_) (fun h127 => ?_)
       ·try (cases h127; done)
        all_goals (try simp only [CQ] at h127)
        all_goals
        refine sZ [12] (fun P S K => K ⟨[(12, (.atom (.bool false)))], S.hp, S.nx, S.gh⟩) fun K hK => ?_
        repeat' (first | (refine hK _ ?_; clear hK K) | ((first | refine xG_intro (fun hg => ?_) (fun hg => ?_) | refine fun (hg : (_ : Prop)) => ?_) <;> ((try simp only [BQ] at hg); try (exfalso; omega))) | refine And.intro ?_ ?_ | exact cl | exact bigR_byte | exact flat_encI _ | refine one_take ?_ _ | refine one_drop ?_ _ | (refine st ?_; try simp only [renL_PL, renL_specsL, encSpec, paths, zeroB_size, dec_self, beq_self_eq_true]) | simp only [renL_PL, renL_specsL, encSpec, paths, zeroB_size, dec_self, beq_self_eq_true])
        all_goals
        refine Tri.ret ?_
        show ResOk _ _ _ _
        exact ResOk.val lsrW33 lpvW33
       ·try (cases h127; done)
        all_goals (try simp only [CQ] at h127)
        all_goals
        refine Tri.skip ?_
        refine sZ [13, 14, 16, 17, 18, 20] (fun P S K => XvIndexAddr P 23 (S.get 13) (S.get 18) (fun r2 _ => XvLoad P 35 (M S.hp S.nx) r2 (fun r3 _ => XvFnIV P (M S.hp S.nx) (.fn 14 []) [r3] (fun r4 e4 => XvFnIV P (M (Eff.hp e4 S.nx S.hp) (S.nx + e4.add.length)) (.fn 23 []) [r4, (S.get 16)] (fun r6 e6 => XvExtract r6 0 (fun r8 _ => XvExtract r6 1 (fun r9 _ => K ⟨[(13, S.get 13), (14, S.get 14), (16, S.get 16), (17, S.get 17), (18, S.get 18), (20, r9)], (Eff.hp e6 (S.nx + e4.add.length) (Eff.hp e4 S.nx S.hp)), ((S.nx + e4.add.length) + e6.add.length), S.gh⟩))))))) fun K hK => ?_
        repeat' (first | (refine hK _ ?_; clear hK K) | ((first | refine xG_intro (fun hg => ?_) (fun hg => ?_) | refine fun (hg : (_ : Prop)) => ?_) <;> ((try simp only [BQ] at hg); try (exfalso; omega))) | refine And.intro ?_ ?_ | exact cl | exact bigR_byte | exact flat_encI _ | refine one_take ?_ _ | refine one_drop ?_ _ | refine .inl ⟨_, _, (own_pure sp).spec hsp, ?_⟩ | refine ⟨_, _, (own_pure sp).spec hsp, ?_⟩ | refine .inl ⟨_, _, cSort_pure sp B htame hB2 hB3 (.inl hB20), ?_⟩ | refine ⟨_, _, cSort_pure sp B htame hB2 hB3 (.inl hB20), ?_⟩ | refine .inl ⟨_, _, cSort_pure sp (manyT N) htame hmt1 hmt2 (.inr hmt3), ?_⟩ | refine ⟨_, _, cSort_pure sp (manyT N) htame hmt1 hmt2 (.inr hmt3), ?_⟩ | refine .inl ⟨_, _, hP, ?_⟩ | refine ⟨_, _, hP, ?_⟩ | refine .inl ⟨_, _, sort_wide (w := zeroB 4097) (zeroB_size 4097), ?_⟩ | refine ⟨_, _, sort_wide (w := zeroB 4097) (zeroB_size 4097), ?_⟩ | (refine st ?_; try simp only [renL_PL, renL_specsL, encSpec, paths, zeroB_size, dec_self, beq_self_eq_true, hx, hlen, r1, r2, s1, s2, o1, o2, wantT]) | simp only [renL_PL, renL_specsL, encSpec, paths, zeroB_size, dec_self, beq_self_eq_true, hx, hlen, r1, r2, s1, s2, o1, o2, wantT])
        all_goals
        rcases hPc with ⟨hw, hP⟩ | ⟨hw, hP⟩
        all_goals
        refine sD 13 [13, 14, 16, 17, 18, 20, 24] (fun P GD S K => XvIndexAddr P 23 (S.get 13) (S.get 18) (fun r2 e2 => XvLoad P 35 (M S.hp S.nx) r2 (fun r3 e3 => XvFnV P (M S.hp S.nx) (.fn 14 []) [r3] (fun r4 e4 => XvLen P 25 (S.get 16) (fun r6 e6 => XvMake P 47 (M (Eff.hp e4 S.nx S.hp) (S.nx + e4.add.length)) r6 r6 (fun r7 e7 => XvFnV P (M (Eff.hp e7 (S.nx + e4.add.length) (Eff.hp e4 S.nx S.hp)) ((S.nx + e4.add.length) + e7.add.length)) (.fn 25 []) [r4, r7] (fun r8 e8 => XvExtract r8 0 (fun r10 e10 => XvExtract r8 1 (fun r11 e11 => (trOk S.nx GD [⟨S.nx, 0, [], [], []⟩, ⟨S.nx, 0, [], [], []⟩, ⟨S.nx, 0, e2.rd, [], []⟩, ⟨S.nx, 0, e3.rd, [], []⟩, (Eff.tr e4 S.nx), ⟨(S.nx + e4.add.length), 0, [], [], []⟩, ⟨(S.nx + e4.add.length), 0, e6.rd, [], []⟩, (Eff.tr e7 (S.nx + e4.add.length)), (Eff.tr e8 ((S.nx + e4.add.length) + e7.add.length)), ⟨(((S.nx + e4.add.length) + e7.add.length) + e8.add.length), 0, [], [], []⟩, ⟨(((S.nx + e4.add.length) + e7.add.length) + e8.add.length), 0, e10.rd, [], []⟩, ⟨(((S.nx + e4.add.length) + e7.add.length) + e8.add.length), 0, e11.rd, [], []⟩, ⟨(((S.nx + e4.add.length) + e7.add.length) + e8.add.length), 0, [], [], []⟩] = true ∧ K ⟨[(13, S.get 13), (14, S.get 14), (16, S.get 16), (17, S.get 17), (18, S.get 18), (20, S.get 20), (24, r11)], (Eff.hp e8 ((S.nx + e4.add.length) + e7.add.length) (Eff.hp e7 (S.nx + e4.add.length) (Eff.hp e4 S.nx S.hp))), (((S.nx + e4.add.length) + e7.add.length) + e8.add.length), S.gh⟩)))))))))) fun K hK => ?_
        repeat' (first | (refine hK _ ?_; clear hK K) | (refine (?_ : trOk _ _ _ = true); (simp only [reach, St.obj, lk, if_true, reduceIte, Option.join_some, List.flatMap_cons, List.flatMap_nil, List.append_nil, List.nil_append, q1, q2, reach_rep]; kernel_rfl)) | ((first | refine xG_intro (fun hg => ?_) (fun hg => ?_) | refine fun (hg : (_ : Prop)) => ?_) <;> ((try simp only [BQ] at hg); try (exfalso; omega))) | refine And.intro ?_ ?_ | exact cl | exact bigR_byte | exact flat_encI _ | refine one_take ?_ _ | refine one_drop ?_ _ | refine .inl ⟨_, _, (own_pure sp).spec hsp, ?_⟩ | refine ⟨_, _, (own_pure sp).spec hsp, ?_⟩ | refine .inl ⟨_, _, cPaths_pure sp pl htame hpl2 hpl3 hpl4 (.inl hpl20), ?_⟩ | refine ⟨_, _, cPaths_pure sp pl htame hpl2 hpl3 hpl4 (.inl hpl20), ?_⟩ | refine .inl ⟨_, _, hP, ?_⟩ | refine ⟨_, _, hP, ?_⟩ | refine .inl ⟨_, _, paths_wide (w := zeroB 4097) (zeroB_size 4097), ?_⟩ | refine ⟨_, _, paths_wide (w := zeroB 4097) (zeroB_size 4097), ?_⟩ | (refine st ?_; try simp only [renL_PL, renL_specsL, encSpec, paths, zeroB_size, dec_self, beq_self_eq_true, hx, hlen, r1, r2, s1, s2, o1, o2, manyT_len, seal_nils]) | simp only [renL_PL, renL_specsL, encSpec, paths, zeroB_size, dec_self, beq_self_eq_true, hx, hlen, r1, r2, s1, s2, o1, o2, manyT_len, seal_nils])
        all_goals
        refine sZ [13, 14, 16, 17, 18, 20, 24, 27] (fun P S K => XvIndexAddr P 23 (S.get 13) (S.get 18) (fun r2 _ => XvLoad P 35 (M S.hp S.nx) r2 (fun r3 _ => XvFnIV P (M S.hp S.nx) (.fn 15 []) [r3] (fun r4 e4 => K ⟨[(13, S.get 13), (14, S.get 14), (16, S.get 16), (17, S.get 17), (18, S.get 18), (20, S.get 20), (24, S.get 24), (27, r4)], (Eff.hp e4 S.nx S.hp), (S.nx + e4.add.length), S.gh⟩)))) fun K hK => ?_
        repeat' (first | (refine hK _ ?_; clear hK K) | ((first | refine xG_intro (fun hg => ?_) (fun hg => ?_) | refine fun (hg : (_ : Prop)) => ?_) <;> ((try simp only [BQ] at hg); try (exfalso; omega))) | refine And.intro ?_ ?_ | exact cl | exact bigR_byte | exact flat_encI _ | refine one_take ?_ _ | refine one_drop ?_ _ | refine .inl ⟨_, _, hP, ?_⟩ | refine ⟨_, _, hP, ?_⟩ | refine .inl ⟨_, _, (rValid_pure sp hsane).spec hsp, ?_⟩ | refine ⟨_, _, (rValid_pure sp hsane).spec hsp, ?_⟩ | (refine st ?_; try simp only [renL_PL, renL_specsL, encSpec, paths, zeroB_size, dec_self, beq_self_eq_true, hx, hlen, r1, r2, s1, s2, o1, o2]) | simp only [renL_PL, renL_specsL, encSpec, paths, zeroB_size, dec_self, beq_self_eq_true, hx, hlen, r1, r2, s1, s2, o1, o2])
        all_goals
        refine Tri.cut (α := Unit) (fun ⟨⟩ => ⟨[(13, .sl 4 LP.1), (14, strs B), (16, strs (manyT N)), (17, paths pl), (18, encI i), (20, encI (wantE sp N)), (24, encI (wantE sp N)), (27, encI (wantE sp N))], [], 0, []⟩) ?_ ?_
        ·skip
         refine sZ [13, 14, 16, 17, 18, 20, 24, 27, 161] (fun P S K => XvBinOV P .eql 30 (.const (.int .i64 0)) (S.get 27) (.atom (.int .i64 0)) (fun r1 _ => Xgq r1 true (fun k => k (S.get 16)) (fun g3 r3 => Xgq g3 true (fun k => XvLen P 25 r3 (fun r4 _ => k r4)) (fun g4 r4 => Xgq g4 true (fun k => XvBinOV P .gtr 3 (.const (.int .i64 1000)) r4 (.atom (.int .i64 1000)) (fun r5 _ => k r5)) (fun g5 r5 => XvPick g5 r5 (.atom (.bool false)) (fun r6 _ => K ⟨[(13, S.get 13), (14, S.get 14), (16, S.get 16), (17, S.get 17), (18, S.get 18), (20, S.get 20), (24, S.get 24), (27, S.get 27), (161, r6)], S.hp, S.nx, S.gh⟩)))))) fun K hK => ?_
         repeat' (first | (refine hK _ ?_; clear hK K) | ((first | refine xG_intro (fun hg => ?_) (fun hg => ?_) | refine fun (hg : (_ : Prop)) => ?_) <;> ((try simp only [BQ] at hg); try (exfalso; omega))) | refine And.intro ?_ ?_ | exact cl | exact bigR_byte | exact flat_encI _ | refine one_take ?_ _ | refine one_drop ?_ _ | (refine st ?_; try simp only [renL_PL, renL_specsL, encSpec, paths, zeroB_size, dec_self, beq_self_eq_true, manyT_len]) | simp only [renL_PL, renL_specsL, encSpec, paths, zeroB_size, dec_self, beq_self_eq_true, manyT_len])
         all_goals
         refine Tri.cond rfl (fun h161 => ?_) (fun h161 => ?_)
         ·try (cases h161; done)
          all_goals (try simp only [CQ] at h161)
          all_goals
          refine rZ [13, 14, 16, 17, 18, 20, 24, 27] (fun P S K => K ⟨[(13, S.get 13), (14, S.get 14), (16, S.get 16), (17, S.get 17), (18, S.get 18), (20, S.get 20), (24, S.get 24), (27, (.atom (.int .i64 4)))], S.hp, S.nx, S.gh⟩) fun K hK => ?_
          repeat' (first | (refine hK _ ?_; clear hK K) | ((first | refine xG_intro (fun hg => ?_) (fun hg => ?_) | refine fun (hg : (_ : Prop)) => ?_) <;> ((try simp only [BQ] at hg); try (exfalso; omega))) | refine And.intro ?_ ?_ | exact cl | exact bigR_byte | exact flat_encI _ | refine one_take ?_ _ | refine one_drop ?_ _ | (refine st ?_; try simp only [renL_PL, renL_specsL, encSpec, paths, zeroB_size, dec_self, beq_self_eq_true]) | simp only [renL_PL, renL_specsL, encSpec, paths, zeroB_size, dec_self, beq_self_eq_true])
          all_goals
          first | (have e : wantE sp N = 4 := if_pos ⟨by omega, by omega⟩; rw [e]) | (have e : wantE sp N = validE sp := if_neg (fun h => by omega); rw [e])
          refine ⟨(), [], ?_⟩
          exact leqW33
         ·try (cases h161; done)
          all_goals (try simp only [CQ] at h161)
          all_goals
          refine Tri.skip ?_
          first | (have e : wantE sp N = 4 := if_pos ⟨by omega, by omega⟩; rw [e]) | (have e : wantE sp N = validE sp := if_neg (fun h => by omega); rw [e])
          refine ⟨(), [], ?_⟩
          exact leqW33
        ·rintro ⟨⟩
         refine sZ [13, 14, 16, 17, 18, 169] (fun P S K => XvBinOV P .neq 30 (.tmp 163) (S.get 20) (S.get 27) (fun r2 _ => Xgq r2 false (fun k => k (S.get 24)) (fun g4 r4 => Xgq g4 false (fun k => k (S.get 27)) (fun g5 r5 => Xgq g5 false (fun k => XvBinOV P .neq 30 (.tmp 167) r4 r5 (fun r6 _ => k r6)) (fun g6 r6 => XvPick g6 (.atom (.bool true)) r6 (fun r7 _ => K ⟨[(13, S.get 13), (14, S.get 14), (16, S.get 16), (17, S.get 17), (18, S.get 18), (169, r7)], S.hp, S.nx, S.gh⟩)))))) fun K hK => ?_
         repeat' (first | (refine hK _ ?_; clear hK K) | ((first | refine xG_intro (fun hg => ?_) (fun hg => ?_) | refine fun (hg : (_ : Prop)) => ?_) <;> ((try simp only [BQ] at hg); try (exfalso; omega))) | refine And.intro ?_ ?_ | exact cl | exact bigR_byte | exact flat_encI _ | refine one_take ?_ _ | refine one_drop ?_ _ | (refine st ?_; try simp only [renL_PL, renL_specsL, encSpec, paths, zeroB_size, dec_self, beq_self_eq_true]) | simp only [renL_PL, renL_specsL, encSpec, paths, zeroB_size, dec_self, beq_self_eq_true])
         all_goals
         refine Tri.cond rfl (fun h169 => ?_) (fun h169 => ?_)
         ·try (cases h169; done)
          all_goals (try simp only [CQ] at h169)
          all_goals
          refine sZ [12] (fun P S K => K ⟨[(12, (.atom (.bool false)))], S.hp, S.nx, S.gh⟩) fun K hK => ?_
          repeat' (first | (refine hK _ ?_; clear hK K) | ((first | refine xG_intro (fun hg => ?_) (fun hg => ?_) | refine fun (hg : (_ : Prop)) => ?_) <;> ((try simp only [BQ] at hg); try (exfalso; omega))) | refine And.intro ?_ ?_ | exact cl | exact bigR_byte | exact flat_encI _ | refine one_take ?_ _ | refine one_drop ?_ _ | (refine st ?_; try simp only [renL_PL, renL_specsL, encSpec, paths, zeroB_size, dec_self, beq_self_eq_true]) | simp only [renL_PL, renL_specsL, encSpec, paths, zeroB_size, dec_self, beq_self_eq_true])
          all_goals
          refine Tri.ret ?_
          show ResOk _ _ _ _
          exact ResOk.val lsrW33 lpvW33
         ·try (cases h169; done)
          all_goals (try simp only [CQ] at h169)
          all_goals
          refine Tri.skip ?_
          refine rZ [13, 14, 16, 17, 18] (fun P S K => XvBinOV P .add 3 (.const (.int .i64 1)) (S.get 18) (.atom (.int .i64 1)) (fun r1 _ => K ⟨[(13, S.get 13), (14, S.get 14), (16, S.get 16), (17, S.get 17), (18, r1)], S.hp, S.nx, S.gh⟩)) fun K hK => ?_
          repeat' (first | (refine hK _ ?_; clear hK K) | ((first | refine xG_intro (fun hg => ?_) (fun hg => ?_) | refine fun (hg : (_ : Prop)) => ?_) <;> ((try simp only [BQ] at hg); try (exfalso; omega))) | refine And.intro ?_ ?_ | exact cl | exact bigR_byte | exact flat_encI _ | refine one_take ?_ _ | refine one_drop ?_ _ | (refine st ?_; try simp only [renL_PL, renL_specsL, encSpec, paths, zeroB_size, dec_self, beq_self_eq_true]) | simp only [renL_PL, renL_specsL, encSpec, paths, zeroB_size, dec_self, beq_self_eq_true])
          all_goals try simp (disch := omega) only [wrap_id, wrap8_id]
          all_goals
          refine ⟨⟨i + 1, by omega⟩, [], by dsimp only; omega, ?_⟩
          exact leqW33
      ·try (cases h67; done)
       all_goals (try simp only [CQ] at h67)
       all_goals
       refine Tri.exit ?_
       refine sZ [28] (fun P S K => XvMake P 28 (M S.hp S.nx) (.atom (.int .i64 4097)) (.atom (.int .i64 4097)) (fun r0 e0 => XvConvert P 28 9 (M (Eff.hp e0 S.nx S.hp) (S.nx + e0.add.length)) r0 (fun r1 e1 => K ⟨[(28, r1)], (Eff.hp e1 (S.nx + e0.add.length) (Eff.hp e0 S.nx S.hp)), ((S.nx + e0.add.length) + e1.add.length), S.gh⟩))) fun K hK => ?_
       repeat' (first | (refine hK _ ?_; clear hK K) | ((first | refine xG_intro (fun hg => ?_) (fun hg => ?_) | refine fun (hg : (_ : Prop)) => ?_) <;> ((try simp only [BQ] at hg); try (exfalso; omega))) | refine And.intro ?_ ?_ | exact cl | exact bigR_byte | exact flat_encI _ | refine one_take ?_ _ | refine one_drop ?_ _ | simp (maxSteps := 2000000) only [↓SD, push_cast, Nat.reduceAdd, Nat.reduceSub, Nat.reduceMul, Nat.reduceLT, Nat.reduceLeDiff, Nat.reduceEqDiff, Int.reduceToNat, reduceIte, reduceCtorEq, Int.reduceLE, Int.reduceLT, Int.reduceNeg, ints, strs, encI, encS, renL_PL, renL_specsL, encSpec, paths, zeroB_size, dec_self, beq_self_eq_true, ↓rep4097, bigR_len, bigR_eq])
       all_goals try simp (disch := omega) only [wrap_id, wrap8_id]
       all_goals
       refine sZ [28, 30] (fun P S K => XvFnIV P (M S.hp S.nx) (.fn 28 []) [] (fun r0 e0 => XvBuildS P 25 2 (S.nx + e0.add.length) [(0, (.atom (.string { data := #[97] }))), (1, (S.get 28))] (fun r2 e2 => XvFnIV P (M (Eff.hp e2 (S.nx + e0.add.length) (Eff.hp e0 S.nx S.hp)) ((S.nx + e0.add.length) + e2.add.length)) (.fn 23 []) [r0, r2] (fun r3 e3 => XvExtract r3 0 (fun r5 _ => XvExtract r3 1 (fun r6 _ => K ⟨[(28, S.get 28), (30, r6)], (Eff.hp e3 ((S.nx + e0.add.length) + e2.add.length) (Eff.hp e2 (S.nx + e0.add.length) (Eff.hp e0 S.nx S.hp))), (((S.nx + e0.add.length) + e2.add.length) + e3.add.length), S.gh⟩)))))) fun K hK => ?_
       repeat' (first | (refine hK _ ?_; clear hK K) | ((first | refine xG_intro (fun hg => ?_) (fun hg => ?_) | refine fun (hg : (_ : Prop)) => ?_) <;> ((try simp only [BQ] at hg); try (exfalso; omega))) | refine And.intro ?_ ?_ | exact cl | exact bigR_byte | exact flat_encI _ | refine one_take ?_ _ | refine one_drop ?_ _ | refine .inl ⟨_, _, cSort_pure sp B htame hB2 hB3 (.inl hB20), ?_⟩ | refine ⟨_, _, cSort_pure sp B htame hB2 hB3 (.inl hB20), ?_⟩ | refine .inl ⟨_, _, cSort_pure sp (manyT N) htame hmt1 hmt2 (.inr hmt3), ?_⟩ | refine ⟨_, _, cSort_pure sp (manyT N) htame hmt1 hmt2 (.inr hmt3), ?_⟩ | refine .inl ⟨_, _, hP, ?_⟩ | refine ⟨_, _, hP, ?_⟩ | refine .inl ⟨_, _, usual_pure, ?_⟩ | refine ⟨_, _, usual_pure, ?_⟩ | refine .inl ⟨_, _, sort_wide (w := zeroB 4097) (zeroB_size 4097), ?_⟩ | refine ⟨_, _, sort_wide (w := zeroB 4097) (zeroB_size 4097), ?_⟩ | (refine st ?_; try simp only [renL_PL, renL_specsL, encSpec, paths, zeroB_size, dec_self, beq_self_eq_true]) | simp only [renL_PL, renL_specsL, encSpec, paths, zeroB_size, dec_self, beq_self_eq_true])
       all_goals
       refine sZ [30, 32] (fun P S K => XvFnIV P (M S.hp S.nx) (.fn 28 []) [] (fun r0 e0 => XvBuildS P 25 1 (S.nx + e0.add.length) [(0, (.atom (.string { data := #[97] })))] (fun r1 e1 => XvBuildS P 25 2 ((S.nx + e0.add.length) + e1.add.length) [(0, (.atom (.string { data := #[97] }))), (1, (S.get 28))] (fun r3 e3 => XvBuildS P 47 2 (((S.nx + e0.add.length) + e1.add.length) + e3.add.length) [(0, r1), (1, r3)] (fun r4 e4 => XvFnIV P (M (Eff.hp e4 (((S.nx + e0.add.length) + e1.add.length) + e3.add.length) (Eff.hp e3 ((S.nx + e0.add.length) + e1.add.length) (Eff.hp e1 (S.nx + e0.add.length) (Eff.hp e0 S.nx S.hp)))) ((((S.nx + e0.add.length) + e1.add.length) + e3.add.length) + e4.add.length)) (.fn 25 []) [r0, r4] (fun r5 e5 => XvExtract r5 0 (fun r7 _ => XvExtract r5 1 (fun r8 _ => K ⟨[(30, S.get 30), (32, r8)], (Eff.hp e5 ((((S.nx + e0.add.length) + e1.add.length) + e3.add.length) + e4.add.length) (Eff.hp e4 (((S.nx + e0.add.length) + e1.add.length) + e3.add.length) (Eff.hp e3 ((S.nx + e0.add.length) + e1.add.length) (Eff.hp e1 (S.nx + e0.add.length) (Eff.hp e0 S.nx S.hp))))), (((((S.nx + e0.add.length) + e1.add.length) + e3.add.length) + e4.add.length) + e5.add.length), S.gh⟩)))))))) fun K hK => ?_
       repeat' (first | (refine hK _ ?_; clear hK K) | ((first | refine xG_intro (fun hg => ?_) (fun hg => ?_) | refine fun (hg : (_ : Prop)) => ?_) <;> ((try simp only [BQ] at hg); try (exfalso; omega))) | refine And.intro ?_ ?_ | exact cl | exact bigR_byte | exact flat_encI _ | refine one_take ?_ _ | refine one_drop ?_ _ | refine .inl ⟨_, _, cPaths_pure sp pl htame hpl2 hpl3 hpl4 (.inl hpl20), ?_⟩ | refine ⟨_, _, cPaths_pure sp pl htame hpl2 hpl3 hpl4 (.inl hpl20), ?_⟩ | refine .inl ⟨_, _, hP, ?_⟩ | refine ⟨_, _, hP, ?_⟩ | refine .inl ⟨_, _, usual_pure, ?_⟩ | refine ⟨_, _, usual_pure, ?_⟩ | refine .inl ⟨_, _, paths_wide (w := zeroB 4097) (zeroB_size 4097), ?_⟩ | refine ⟨_, _, paths_wide (w := zeroB 4097) (zeroB_size 4097), ?_⟩ | (refine st ?_; try simp only [renL_PL, renL_specsL, encSpec, paths, zeroB_size, dec_self, beq_self_eq_true]) | simp only [renL_PL, renL_specsL, encSpec, paths, zeroB_size, dec_self, beq_self_eq_true])
       all_goals
       refine sZ [12] (fun P S K => XvBinOV P .eql 30 (.const (.int .i64 4)) (S.get 30) (.atom (.int .i64 4)) (fun r1 _ => Xgq r1 true (fun k => k (S.get 32)) (fun g3 r3 => Xgq g3 true (fun k => XvBinOV P .eql 30 (.const (.int .i64 4)) r3 (.atom (.int .i64 4)) (fun r4 _ => k r4)) (fun g4 r4 => XvPick g4 r4 (.atom (.bool false)) (fun r5 _ => Xge r5 true (fun k => XvFnIV P (M S.hp S.nx) (.fn 19 []) [] k) (fun g7 r7 e7 => XvPick g7 r7 (.atom (.bool false)) (fun r8 _ => K ⟨[(12, r8)], (Eff.hp e7 S.nx S.hp), (S.nx + e7.add.length), S.gh⟩))))))) fun K hK => ?_
       repeat' (first | (refine hK _ ?_; clear hK K) | ((first | refine xG_intro (fun hg => ?_) (fun hg => ?_) | refine fun (hg : (_ : Prop)) => ?_) <;> ((try simp only [BQ] at hg); try (exfalso; omega))) | refine And.intro ?_ ?_ | exact cl | exact bigR_byte | exact flat_encI _ | refine one_take ?_ _ | refine one_drop ?_ _ | refine .inl ⟨_, _, hP, ?_⟩ | refine ⟨_, _, hP, ?_⟩ | refine .inl ⟨_, _, lives_pure, ?_⟩ | refine ⟨_, _, lives_pure, ?_⟩ | (refine st ?_; try simp only [renL_PL, renL_specsL, encSpec, paths, zeroB_size, dec_self, beq_self_eq_true]) | simp only [renL_PL, renL_specsL, encSpec, paths, zeroB_size, dec_self, beq_self_eq_true])
       all_goals
       refine Tri.ret ?_
       show ResOk _ _ _ _
       exact ResOk.val lsrW33 lpvW33
end Go.Proofs.YtfnkciboencifaaDoor
