/-
  Walks: text and value; the law CollateRules.
-/
import Derived.Test.YtfnkciboencifaaDoorBW4
import Derived.Test.YtfnkciboencifaaDoorBW40
set_option linter.all false
namespace Go.Proofs.YtfnkciboencifaaDoor
open Go Go.RowKit
set_option linter.unusedSimpArgs false
set_option linter.unusedVariables false
set_option maxRecDepth 20000
set_option maxHeartbeats 4000000
theorem lsrW41 {p : Prop} (h : p := by (first | rfl | (simp [St.born, St.known, retV, St.get, St.obj, lk, sealed, PV.ren, renL, rmap, AO.ren, ints, strs, encI, encS, map_sealed_encI, map_sealed_encS, map_sealed_ints, map_sealed_strs, map_ren_encI, map_ren_encS, map_ren_ints, map_ren_strs, renL_encI, renL_encS, renL_ints, renL_strs]; done))) : p := h
theorem lpvW41 {p : Prop} (h : p := by (first | rfl | (simp [pure_ints, pure_strs, PV.pure, pureL, pureL_encI, pureL_encS, pureL_ints, pureL_strs]; done))) : p := h
theorem tok_words {t : ByteArray} (h : tokL t ≠ []) : wordsS t ≠ [] := by
  intro hw
  rw [words_fl, List.map_eq_nil_iff] at hw
  have hall := fl_none _ hw
  have hb : ∀ i, i < t.size → byteAt t i = 32 := fun i hi => by
    refine hall _ ?_
    have := drop_bl hi
    exact List.mem_of_mem_drop (by rw [this]; exact List.mem_cons_self ..)
  have hf : ∀ f i, tokF t f i = [] := by
    intro f
    induction f with
    | zero => intro i; rfl
    | succ f ih =>
      intro i
      rw [tokF]
      by_cases hi : i < t.size
      · rw [if_pos hi, if_pos (hb i hi)]; exact ih _
      · rw [if_neg hi]
  exact h (hf _ _)
theorem dig_text {n : Nat} (h : n < 10) : (⟨#[pvByte (.atom (.int .u8 (48 + (n : Int))))]⟩ : ByteArray) = wB [dig1 n] := by
  have hall : ∀ n : Fin 10, (⟨#[pvByte (.atom (.int .u8 (48 + (n.1 : Int))))]⟩ : ByteArray) = wB [dig1 n.1] := by decide
  exact hall ⟨n, h⟩
theorem wB_app (a b : List UInt8) : wB a ++ wB b = wB (a ++ b) := by
  apply ByteArray.ext
  simp [wB, ByteArray.data_append]
theorem text_step (n : Nat) (a : ByteArray) (hn : n ≤ 1000000000) (ha : a.size ≤ 1000) (ih : 10 ≤ n → Pure Tryd.prog 36 [encI (n / 10 : Nat)] (encS a) []) : Pure Tryd.prog 36 [encI n] (encS (if n < 10 then wB [dig1 n] else a ++ wB [dig1 (n % 10)])) [] := by
  have hm : n % 10 < 10 := Nat.mod_lt n (by decide)
  have hq : IntKind.i64.wrap ((n : Int).tdiv 10) = ((n / 10 : Nat) : Int) := by
    rw [Int.tdiv_eq_ediv_of_nonneg (by omega), wrap_id (by omega) (by omega)]; omega
  obtain ⟨r, hr⟩ : ∃ r, r = n % 10 := ⟨_, rfl⟩
  obtain ⟨d, hd⟩ : ∃ d, d = n / 10 := ⟨_, rfl⟩
  have hr2 : (n : Int).tmod 10 = (r : Int) := by rw [Int.tmod_eq_emod_of_nonneg (by omega)]; omega
  rw [← hd] at hq ih
  rw [← hr]
  have hds : (wB [dig1 r]).size = 1 := rfl
  refine Pure.intro (ts := [2]) Tryd.func36 (by kernel_rfl) rfl rfl rfl (Nat.le_of_ble_eq_true rfl) ?_ ?_
  · simp [pure_ints, pure_strs, encI, encS, PV.pure, pureL]
  refine sY [0] (fun P S K => K ⟨[(0, S.get 0)], S.hp, S.nx, S.gh⟩) ?_
  all_goals
  refine Tri.seq ?_
  refine sY [0, 4] (fun P S K => XvBinOV P .lss 3 (.const (.int .i64 10)) (S.get 0) (.atom (.int .i64 10)) (fun r1 _ => K ⟨[(0, S.get 0), (4, r1)], S.hp, S.nx, S.gh⟩)) ?_
  all_goals
  refine Tri.cond rfl (fun h4 => ?_) (fun h4 => ?_)
  ·try (cases h4; done)
   all_goals (try simp only [CQ] at h4)
   all_goals
   refine sZ [2] (fun P S K => XvBinOV P .add 3 (.tmp 5) (.atom (.int .i64 48)) (S.get 0) (fun r1 _ => XvConvert P 3 5 (M S.hp S.nx) r1 (fun r2 e2 => XvBuildS P 28 1 (S.nx + e2.add.length) [(0, r2)] (fun r3 e3 => XvConvert P 28 9 (M (Eff.hp e3 (S.nx + e2.add.length) (Eff.hp e2 S.nx S.hp)) ((S.nx + e2.add.length) + e3.add.length)) r3 (fun r4 e4 => K ⟨[(2, r4)], (Eff.hp e4 ((S.nx + e2.add.length) + e3.add.length) (Eff.hp e3 (S.nx + e2.add.length) (Eff.hp e2 S.nx S.hp))), (((S.nx + e2.add.length) + e3.add.length) + e4.add.length), S.gh⟩))))) fun K hK => ?_
   repeat' (first | (refine hK _ ?_; clear hK K) | ((first | refine xG_intro (fun hg => ?_) (fun hg => ?_) | refine fun (hg : (_ : Prop)) => ?_) <;> ((try simp only [BQ] at hg); try (exfalso; omega))) | refine And.intro ?_ ?_ | exact cl | refine one_take ?_ _ | refine one_drop ?_ _ | (refine st ?_; try simp only [wrap_id (x := 48 + (n : Int)) (by omega) (by omega), wrap8_id (x := 48 + (n : Int)) (by omega) (by omega), dig_text (show n < 10 by omega)]) | simp only [wrap_id (x := 48 + (n : Int)) (by omega) (by omega), wrap8_id (x := 48 + (n : Int)) (by omega) (by omega), dig_text (show n < 10 by omega)])
   all_goals try simp (disch := omega) only [wrap_id, wrap8_id]
   all_goals
   refine Tri.ret ?_
   show ResOk _ _ _ _
   rw [if_pos (by omega)]
   exact ResOk.val lsrW41 lpvW41
  ·try (cases h4; done)
   all_goals (try simp only [CQ] at h4)
   all_goals
   refine Tri.skip ?_
   refine sD 11 [2] (fun P GD S K => XvBinOV P .quo 3 (.const (.int .i64 10)) (S.get 0) (.atom (.int .i64 10)) (fun r1 e1 => XvFnV P (M S.hp S.nx) (.fn 36 []) [r1] (fun r2 e2 => XvBinOV P .rem 3 (.const (.int .i64 10)) (S.get 0) (.atom (.int .i64 10)) (fun r4 e4 => XvBinOV P .add 3 (.tmp 14) (.atom (.int .i64 48)) r4 (fun r5 e5 => XvConvert P 3 5 (M (Eff.hp e2 S.nx S.hp) (S.nx + e2.add.length)) r5 (fun r6 e6 => XvBuildS P 28 1 ((S.nx + e2.add.length) + e6.add.length) [(0, r6)] (fun r7 e7 => XvConvert P 28 9 (M (Eff.hp e7 ((S.nx + e2.add.length) + e6.add.length) (Eff.hp e6 (S.nx + e2.add.length) (Eff.hp e2 S.nx S.hp))) (((S.nx + e2.add.length) + e6.add.length) + e7.add.length)) r7 (fun r8 e8 => XvBinOV P .add 9 (.tmp 18) r2 r8 (fun r9 e9 => (trOk S.nx GD [⟨S.nx, 0, [], [], []⟩, ⟨S.nx, 0, e1.rd, [], []⟩, (Eff.tr e2 S.nx), ⟨(S.nx + e2.add.length), 0, [], [], []⟩, ⟨(S.nx + e2.add.length), 0, e4.rd, [], []⟩, ⟨(S.nx + e2.add.length), 0, e5.rd, [], []⟩, (Eff.tr e6 (S.nx + e2.add.length)), (Eff.tr e7 ((S.nx + e2.add.length) + e6.add.length)), (Eff.tr e8 (((S.nx + e2.add.length) + e6.add.length) + e7.add.length)), ⟨((((S.nx + e2.add.length) + e6.add.length) + e7.add.length) + e8.add.length), 0, e9.rd, [], []⟩, ⟨((((S.nx + e2.add.length) + e6.add.length) + e7.add.length) + e8.add.length), 0, [], [], []⟩] = true ∧ K ⟨[(2, r9)], (Eff.hp e8 (((S.nx + e2.add.length) + e6.add.length) + e7.add.length) (Eff.hp e7 ((S.nx + e2.add.length) + e6.add.length) (Eff.hp e6 (S.nx + e2.add.length) (Eff.hp e2 S.nx S.hp)))), ((((S.nx + e2.add.length) + e6.add.length) + e7.add.length) + e8.add.length), S.gh⟩)))))))))) fun K hK => ?_
   repeat' (first | (refine hK _ ?_; clear hK K) | (refine (?_ : trOk _ _ _ = true); kernel_rfl) | ((first | refine xG_intro (fun hg => ?_) (fun hg => ?_) | refine fun (hg : (_ : Prop)) => ?_) <;> ((try simp only [BQ] at hg); try (exfalso; omega))) | refine And.intro ?_ ?_ | exact cl | refine one_take ?_ _ | refine one_drop ?_ _ | refine .inl ⟨_, _, ih (by omega), ?_⟩ | refine ⟨_, _, ih (by omega), ?_⟩ | (refine st ?_; try simp only [hq, hr2, wrap_id (x := 48 + (r : Int)) (by omega) (by omega), wrap8_id (x := 48 + (r : Int)) (by omega) (by omega), dig_text (show r < 10 by omega), hds]) | simp only [hq, hr2, wrap_id (x := 48 + (r : Int)) (by omega) (by omega), wrap8_id (x := 48 + (r : Int)) (by omega) (by omega), dig_text (show r < 10 by omega), hds])
   all_goals try simp (disch := omega) only [wrap_id, wrap8_id]
   all_goals
   refine Tri.ret ?_
   show ResOk _ _ _ _
   rw [if_neg (by omega)]
   exact ResOk.val lsrW41 lpvW41
theorem text_pure : ∀ (f n : Nat), f ≤ 8 → n < 10 ^ (f + 1) → Pure Tryd.prog 36 [encI n] (encS (wB (dgF f n))) []
  | 0, n, _, h => by
    have h10 : n < 10 := by simpa using h
    have := text_step n ByteArray.empty (by omega) (by decide) (fun g => by omega)
    rw [if_pos h10] at this
    exact this
  | f + 1, n, hf, h => by
    have hb : n ≤ 1000000000 := Nat.le_of_lt (Nat.lt_of_lt_of_le h (Nat.le_trans (Nat.pow_le_pow_right (by decide) (show f + 1 + 1 ≤ 9 by omega)) (by decide)))
    have hsz : ∀ (f n : Nat), (wB (dgF f n)).size ≤ f + 1 := by
      intro f
      induction f with
      | zero => intro n; exact Nat.le_refl _
      | succ f ih =>
        intro n
        rw [dgF]; split
        · exact Nat.succ_le_succ (Nat.zero_le _)
        · rw [← wB_app, ByteArray.size_append]
          have := ih (n / 10)
          have e : (wB [dig1 (n % 10)]).size = 1 := rfl
          omega
    have := text_step n (wB (dgF f (n / 10))) (by omega) (by have := hsz f (n / 10); omega) (fun _ => text_pure f (n / 10) (by omega) (div10 h))
    rw [dgF]
    by_cases h10 : n < 10
    · rw [if_pos h10] at this ⊢; exact this
    · rw [if_neg h10, wB_app] at this; rw [if_neg h10]; exact this
theorem value_pure (a b : Int) : Pure Tryd.prog 37 [encI a, encI b] (encI (valueI a b)) [] := by
  refine Pure.intro (ts := [4]) Tryd.func37 (by kernel_rfl) rfl rfl rfl (Nat.le_of_ble_eq_true rfl) ?_ ?_
  · simp [pure_ints, pure_strs, encI, encS, PV.pure, pureL]
  refine sY [0, 1] (fun P S K => K ⟨[(0, S.get 0), (1, S.get 1)], S.hp, S.nx, S.gh⟩) ?_
  all_goals
  refine Tri.seq ?_
  refine sY [0, 1, 7] (fun P S K => XvBinOV P .lss 3 (.tmp 6) (S.get 0) (S.get 1) (fun r2 _ => K ⟨[(0, S.get 0), (1, S.get 1), (7, r2)], S.hp, S.nx, S.gh⟩)) ?_
  all_goals
  refine Tri.cond rfl (fun h7 => ?_) (fun h7 => ?_)
  ·try (cases h7; done)
   all_goals (try simp only [CQ] at h7)
   all_goals
   refine sY [4] (fun P S K => K ⟨[(4, (.atom (.int .i64 (-1))))], S.hp, S.nx, S.gh⟩) ?_
   all_goals
   refine Tri.ret ?_
   show ResOk _ _ _ _
   rw [show valueI a b = -1 from if_pos (by omega)]
   exact ResOk.val lsrW41 lpvW41
  ·try (cases h7; done)
   all_goals (try simp only [CQ] at h7)
   all_goals
   refine Tri.skip ?_
   refine Tri.seq ?_
   refine sY [10] (fun P S K => XvBinOV P .gtr 3 (.tmp 9) (S.get 0) (S.get 1) (fun r2 _ => K ⟨[(10, r2)], S.hp, S.nx, S.gh⟩)) ?_
   all_goals
   refine Tri.cond rfl (fun h10 => ?_) (fun h10 => ?_)
   ·try (cases h10; done)
    all_goals (try simp only [CQ] at h10)
    all_goals
    refine sY [4] (fun P S K => K ⟨[(4, (.atom (.int .i64 1)))], S.hp, S.nx, S.gh⟩) ?_
    all_goals
    refine Tri.ret ?_
    show ResOk _ _ _ _
    rw [show valueI a b = 1 from (if_neg (by omega)).trans (if_pos (by omega))]
    exact ResOk.val lsrW41 lpvW41
   ·try (cases h10; done)
    all_goals (try simp only [CQ] at h10)
    all_goals
    refine Tri.skip ?_
    refine sY [4] (fun P S K => K ⟨[(4, (.atom (.int .i64 0)))], S.hp, S.nx, S.gh⟩) ?_
    all_goals
    refine Tri.ret ?_
    show ResOk _ _ _ _
    rw [show valueI a b = 0 from (if_neg (by omega)).trans (if_neg (by omega))]
    exact ResOk.val lsrW41 lpvW41
end Go.Proofs.YtfnkciboencifaaDoor
set_option linter.all false
namespace Go.Proofs.YtfnkciboencifaaDoor
open Go Go.RowKit
set_option linter.unusedSimpArgs false
set_option linter.unusedVariables false
set_option maxRecDepth 20000
set_option maxHeartbeats 4000000
theorem leqW42 {p : Prop} (h : p := by (refine ⟨4, ?_, ?_, rfl, by simp, rfl, fun _ h _ => absurd h (Nat.not_lt_zero _)⟩ <;> (simp only [List.forall_mem_cons]; repeat' (first | refine And.intro ?_ ?_ | (intro p hp; exact absurd hp List.not_mem_nil) | rfl | exact sp (pure_spec _) | exact (sealed_pure _ _ _ (pure_ints _)).trans (ren_ints _ _).symm | exact (sealed_pure _ _ _ (pure_strs _)).trans (ren_strs _ _).symm | exact sp (by assumption) | (intro o ho; cases ho; refine ⟨by decide, ?_⟩; first | (refine LeqS.row rfl ?_ ?_; (next => (first | rfl | (simp only [List.map_append, List.map_cons, List.map_nil, List.append_nil, List.nil_append, List.append_assoc, List.cons_append, encI, encS, ints, strs]; done) | (simp [encI, encS, ints, strs, nilP]; done))); (next => (first | rfl | exact pureL_encI _ | exact pureL_encS _ | exact pureL_ints _ | exact pureL_strs _ | exact pureL_encT _ | (simp [pureL_append, pureL_encI, pureL_encS, pureL_ints, pureL_strs, pureL, PV.pure, pure_ints, pure_strs, pureL_encT, pure_spec]; done))); done) | refine ⟨_, rfl, rfl, ?_⟩) | (simp [St.born, St.known, retV, St.get, St.obj, lk, sealed, PV.ren, renL, rmap, AO.ren, ints, strs, encI, encS, map_sealed_encI, map_sealed_encS, map_sealed_ints, map_sealed_strs, map_ren_encI, map_ren_encS, map_ren_ints, map_ren_strs, renL_encI, renL_encS, renL_ints, renL_strs, ren_spec, nilP, encSpec] <;> omega)))); first | done | fail) : p := h
theorem lsrW42 {p : Prop} (h : p := by (first | rfl | (simp [St.born, St.known, retV, St.get, St.obj, lk, sealed, PV.ren, renL, rmap, AO.ren, ints, strs, encI, encS, map_sealed_encI, map_sealed_encS, map_sealed_ints, map_sealed_strs, map_ren_encI, map_ren_encS, map_ren_ints, map_ren_strs, renL_encI, renL_encS, renL_ints, renL_strs, ren_spec, nilP, encSpec]; done)); first | done | fail) : p := h
theorem lpvW42 {p : Prop} (h : p := by (first | rfl | (simp [pure_ints, pure_strs, PV.pure, pureL, pureL_encI, pureL_encS, pureL_ints, pureL_strs, pureL_encT, pure_spec]; done)); first | done | fail) : p := h
theorem cmp_ok (s : SpecD) (hv : validE s = 0) (ht : Tame s) (a b : ByteArray) (ha : a.size ≤ 4096) (hb : b.size ≤ 4096) {v : Int} (h : lexi (keyOf s a) (keyOf s b) = v) : Pure Tryd.prog 20 [encSpec s, encS a, encS b] (.tup [encI v, encI 0]) [] := by
  have hp := cCompare_pure s a b ht (by omega) (by omega)
  have e1 := keyE_ok (s := s) (t := a) hv (by omega)
  have e2 := keyE_ok (s := s) (t := b) hv (by omega)
  have e3 : cmpE s a b = 0 := by unfold cmpE; rw [e1.1, e2.1]; rfl
  have e4 : cmpR s a b = v := by unfold cmpR; rw [if_pos e3, e1.2, e2.2, h]
  rw [e3, e4] at hp
  exact hp
theorem numB_size (n : Nat) : (numB n).size ≤ 5 := by
  have hsz : ∀ (f n : Nat), (wB (dgF f n)).size ≤ f + 1 := by
    intro f
    induction f with
    | zero => intro n; exact Nat.le_refl _
    | succ f ih =>
      intro n
      rw [dgF]; split
      · exact Nat.succ_le_succ (Nat.zero_le _)
      · rw [← wB_app, ByteArray.size_append]
        have := ih (n / 10)
        have e : (wB [dig1 (n % 10)]).size = 1 := rfl
        omega
  exact hsz 4 n
def nilP (w n : Bool) (o : List ByteArray) : PV := .agg [.atom (.bool w), .atom (.slice none 0 0), .atom (.bool n), strs o]
theorem nil_spec (w n : Bool) (o : List ByteArray) : IsSpec ⟨w, [], n, o⟩ (nilP w n o) := ⟨_, _, rfl, .inr ⟨rfl, rfl⟩, .inl rfl⟩
theorem made_order (l : List Int) : ∀ x, x ∈ (madeS l).order → x.size ≤ 64 := (made_fit l).orders
theorem bare_tame (w n : Bool) (l : List Int) : Tame ⟨w, [], n, (madeS l).order⟩ := ⟨fun x h => (by cases h), fun x h => Nat.le_trans (made_order l x h) (by decide)⟩
theorem map_ren_encT (ρ : Nat → Nat) (l : List (Int × Int × Int)) : (l.map encT).map (PV.ren ρ) = l.map encT := map_ren_pure ρ (pureL_encT l)
theorem rules_pure (l m : List Int) (a b at_ : Int) (hl : Fits l) (hm : Fits m) (ha : I64 a) (hb : I64 b) (hat : I64 at_) : Pure Tryd.prog 8 [ints l, ints m, encI a, encI b, encI at_] (.atom (.bool true)) [] := by
  have hv := made_valid l
  have hfit := made_fit l
  have htame := (hfit.sane (by decide)).tame
  have hts := textS_size m 0
  have ht5 := textS_size m 5
  obtain ⟨t, ht⟩ : ∃ t, t = textS m 0 := ⟨_, rfl⟩
  obtain ⟨t5, ht5e⟩ : ∃ t, t = textS m 5 := ⟨_, rfl⟩
  have hT0 := Text_pure m 0 hm (by decide) (by decide)
  have hT5 := Text_pure m 5 hm (by decide) (by decide)
  rw [← ht] at hT0 hts
  rw [← ht5e] at hT5 ht5
  obtain ⟨s, hs⟩ : ∃ s, s = madeS l := ⟨_, rfl⟩
  have hskip : s.skip = madeSk (atI l 2 4) := by rw [hs]; rfl
  have hsks : ∀ x, x ∈ s.skip → x.size ≤ 64 := by rw [hs]; exact hfit.skips
  have hskl : s.skip.length ≤ 60 := by rw [hs]; exact hfit.skip
  have hown := (own_pure (madeS l)).spec (made_spec l)
  have hF := bare_tame false s.numbers l
  have hB := bare_tame s.words s.numbers l
  have hW := bare_tame true s.numbers l
  have hvF : validE ⟨false, [], s.numbers, (madeS l).order⟩ = 0 := specB_valid false s.numbers l
  have hvB : validE ⟨s.words, [], s.numbers, (madeS l).order⟩ = 0 := specB_valid s.words s.numbers l
  have hvW : validE ⟨true, [], s.numbers, (madeS l).order⟩ = 0 := specB_valid true s.numbers l
  have hvN : validE ⟨s.words, s.skip, true, (madeS l).order⟩ = 0 := by rw [hskip]; exact specN_valid s.words true l
  have hNt : Tame ⟨s.words, s.skip, true, (madeS l).order⟩ := by rw [hs]; exact ⟨htame.skips, htame.orders⟩
  have hgW : 0 ≤ (grp ⟨true, [], s.numbers, (madeS l).order⟩ 97).1 := grp_made true [] s.numbers l hvW 97 (.inl rfl)
  have hgB : 0 ≤ (grp ⟨s.words, [], s.numbers, (madeS l).order⟩ 111).1 := grp_made s.words [] s.numbers l hvB 111 (.inr rfl)
  have hking := king_rule s.numbers l
  have hF14 := (cmp_ok ⟨false, [], s.numbers, (madeS l).order⟩ hvF hF kingT kingT2 (by decide) (by decide) hking.1).spec (nil_spec false s.numbers (madeS l).order)
  obtain ⟨y, hy⟩ : ∃ y, y = lexi (keyOf (specB false [] s.numbers l) kingT) (keyOf (specB false [] s.numbers l) kingT3) := ⟨_, rfl⟩
  have hy0 : ¬ y = 0 := by rw [hy]; exact hking.2
  have hF15 := (cmp_ok ⟨false, [], s.numbers, (madeS l).order⟩ hvF hF kingT kingT3 (by decide) (by decide) hy.symm).spec (nil_spec false s.numbers (madeS l).order)
  have hB24 := (cmp_ok ⟨s.words, [], s.numbers, (madeS l).order⟩ hvB hB t (t ++ odeB) (by omega) (by rw [ByteArray.size_append]; have e : odeB.size = 4 := rfl; omega) (ode_rule rfl hgB t)).spec (nil_spec s.words s.numbers (madeS l).order)
  have hW27 : ∀ j, j < 5 → Pure Tryd.prog 20 [nilP true s.numbers (madeS l).order, encS (ls markW j), encS (ls markW j ++ arkB)] (.tup [encI (-1), encI 0]) [] := fun j hj => by
    have h1 := (mark_fl hj).2.2
    have e : arkB.size = 3 := rfl
    exact (cmp_ok ⟨true, [], s.numbers, (madeS l).order⟩ hvW hW (ls markW j) (ls markW j ++ arkB) (by omega) (by rw [ByteArray.size_append]; omega) (mark_rule s.numbers l hj)).spec (nil_spec true s.numbers (madeS l).order)
  have hW28 : ∀ j, j < 5 → Pure Tryd.prog 20 [nilP true s.numbers (madeS l).order, encS (ls markW j ++ spB1 ++ t), encS (ls markW j ++ arkB)] (.tup [encI (-1), encI 0]) [] := fun j hj => by
    obtain ⟨h2, h3, h1⟩ := mark_fl hj
    have e : arkB.size = 3 := rfl
    have e2 : spB1.size = 1 := rfl
    exact (cmp_ok ⟨true, [], s.numbers, (madeS l).order⟩ hvW hW (ls markW j ++ spB1 ++ t) (ls markW j ++ arkB) (by rw [ByteArray.size_append, ByteArray.size_append]; omega) (by rw [ByteArray.size_append]; omega) (ark_rule rfl rfl hgW _ _ h2 h3)).spec (nil_spec true s.numbers (madeS l).order)
  have hN23 : ∀ n k, n < 100000 → k < 100000 → Pure Tryd.prog 20 [encSpec ⟨s.words, s.skip, true, (madeS l).order⟩, encS (headB t5 ++ numB n ++ minusB ++ t), encS (headB t5 ++ numB k ++ minusB ++ t)] (.tup [encI (valueI n k), encI 0]) [] := fun n k hn hk => by
    have h1 := numB_size n
    have h2 := numB_size k
    have e1 : (headB t5).size = t5.size + 3 := by unfold headB; rw [ByteArray.size_append, ByteArray.size_append]; have e : (⟨#[120, 32]⟩ : ByteArray).size = 2 := rfl; have e' : (⟨#[46]⟩ : ByteArray).size = 1 := rfl; omega
    have e2 : minusB.size = 1 := rfl
    exact cmp_ok _ hvN hNt _ _ (by simp only [ByteArray.size_append]; omega) (by simp only [ByteArray.size_append]; omega) (num_rule ⟨s.words, s.skip, true, (madeS l).order⟩ (atI l 2 4) hskip rfl t5 t hn hk)
  rw [← hs] at hv htame hown hF14 hF15 hB24 hW27 hW28 hN23
  have hS7 : ∀ i, i < s.skip.length → tokL t ≠ [] → Pure Tryd.prog 20 [encSpec s, encS (ls s.skip i ++ spB1 ++ t), encS t] (.tup [encI 0, encI 0]) [] := fun i hi htok => by
    have h1 := hsks _ (ls_mem hi)
    have e2 : spB1.size = 1 := rfl
    exact cmp_ok s hv htame _ _ (by simp only [ByteArray.size_append]; omega) (by omega) (by rw [skip_rule s _ hskip _ t (ls_mem hi) (tok_words htok), lexi_self])
  have ar1 := around_lo (n := a) (most := 100000) (by decide)
  have ar2 := around_hi (n := a) (most := 100000) (by decide)
  have br1 := around_lo (n := b) (most := 100000) (by decide)
  have br2 := around_hi (n := b) (most := 100000) (by decide)
  have cr1 := around_lo (n := at_) (most := 5) (by decide)
  have cr2 := around_hi (n := at_) (most := 5) (by decide)
  obtain ⟨n, hn⟩ : ∃ n : Nat, (n : Int) = around a 100000 := ⟨(around a 100000).toNat, by omega⟩
  obtain ⟨k0, hk0⟩ : ∃ n : Nat, (n : Int) = around b 100000 := ⟨(around b 100000).toNat, by omega⟩
  obtain ⟨j, hj⟩ : ∃ n : Nat, (n : Int) = around at_ 5 := ⟨(around at_ 5).toNat, by omega⟩
  have hn5 : n < 100000 := by omega
  have hj5 : j < 5 := by omega
  have hA := Around_pure a 100000 ha (by decide)
  have hA2 := Around_pure b 100000 hb (by decide)
  have hA3 := Around_pure at_ 3 hat (by decide)
  have hA5 := Around_pure at_ 5 hat (by decide)
  rw [← hn] at hA
  rw [← hk0] at hA2
  rw [← hj] at hA5
  have hnum := numB_size n
  have hmk := (mark_fl hj5).2.2
  have z1 : (ByteArray.mk #[32]).size = 1 := rfl
  have z2 : (ByteArray.mk #[120, 32]).size = 2 := rfl
  have z3 : (ByteArray.mk #[46]).size = 1 := rfl
  have z4 : (ByteArray.mk #[45]).size = 1 := rfl
  have z5 : (ByteArray.mk #[32, 111, 100, 101]).size = 4 := rfl
  have z6 : (ByteArray.mk #[97, 114, 107]).size = 3 := rfl
  have hmg : ([PV.atom (.string ⟨#[110, 101, 119]⟩), PV.atom (.string ⟨#[116, 104, 101]⟩), PV.atom (.string ⟨#[97]⟩), PV.atom (.string ⟨#[75, 105, 110, 103]⟩), PV.atom (.string ⟨#[120, 45]⟩)] : List PV).getD j .junk = encS (ls markW j) := getD_encS (l := markW) hj5
  refine Pure.intro (ts := [10]) Tryd.func8 (by kernel_rfl) rfl rfl rfl (Nat.le_of_ble_eq_true rfl) ?_ ?_
  · simp [encI, encS, PV.pure, pure_ints, pure_strs, pureL]
  refine sZ [0, 1, 2, 3, 4] (fun P S K => K ⟨[(0, S.get 0), (1, S.get 1), (2, S.get 2), (3, S.get 3), (4, S.get 4)], S.hp, S.nx, S.gh⟩) fun K hK => ?_
  repeat' (first | (refine hK _ ?_; clear hK K) | ((first | refine xG_intro (fun hg => ?_) (fun hg => ?_) | refine fun (hg : (_ : Prop)) => ?_) <;> ((try simp only [BQ] at hg); try (exfalso; omega))) | refine And.intro ?_ ?_ | exact cl | exact one_encT _ | refine one_take ?_ _ | refine one_drop ?_ _ | (refine st ?_; try simp only [map_ren_encT, nilP, encSpec, madeP, ren_madeV, sealed_madeV, noOb_madeV, dec_self, beq_self_eq_true, ByteArray.size_append]) | simp only [map_ren_encT, nilP, encSpec, madeP, ren_madeV, sealed_madeV, noOb_madeV, dec_self, beq_self_eq_true, ByteArray.size_append])
  all_goals
  refine sZ [1, 2, 3, 4, 11] (fun P S K => XvFnIV P (M S.hp S.nx) (.fn 33 []) [(S.get 0)] (fun r1 e1 => XvFnIV P (M (Eff.hp e1 S.nx S.hp) (S.nx + e1.add.length)) (.fn 14 []) [r1] (fun r2 e2 => XvAlloc P 33 ((S.nx + e1.add.length) + e2.add.length) (fun r3 e3 => XvStore P 33 (M (Eff.hp e3 ((S.nx + e1.add.length) + e2.add.length) (Eff.hp e2 (S.nx + e1.add.length) (Eff.hp e1 S.nx S.hp))) (((S.nx + e1.add.length) + e2.add.length) + e3.add.length)) r3 r2 (fun r4 e4 => K ⟨[(1, S.get 1), (2, S.get 2), (3, S.get 3), (4, S.get 4), (11, r3)], (Eff.hp e4 (((S.nx + e1.add.length) + e2.add.length) + e3.add.length) (Eff.hp e3 ((S.nx + e1.add.length) + e2.add.length) (Eff.hp e2 (S.nx + e1.add.length) (Eff.hp e1 S.nx S.hp)))), ((((S.nx + e1.add.length) + e2.add.length) + e3.add.length) + e4.add.length), S.gh⟩))))) fun K hK => ?_
  repeat' (first | (refine hK _ ?_; clear hK K) | ((first | refine xG_intro (fun hg => ?_) (fun hg => ?_) | refine fun (hg : (_ : Prop)) => ?_) <;> ((try simp only [BQ] at hg); try (exfalso; omega))) | refine And.intro ?_ ?_ | exact cl | exact one_encT _ | refine one_take ?_ _ | refine one_drop ?_ _ | refine .inl ⟨_, _, Made_pure l hl, ?_⟩ | refine ⟨_, _, Made_pure l hl, ?_⟩ | refine .inl ⟨_, _, hown, ?_⟩ | refine ⟨_, _, hown, ?_⟩ | refine .inl ⟨_, _, hT0, ?_⟩ | refine ⟨_, _, hT0, ?_⟩ | refine .inl ⟨_, _, hT5, ?_⟩ | refine ⟨_, _, hT5, ?_⟩ | refine .inl ⟨_, _, hS7 i hil htk, ?_⟩ | refine ⟨_, _, hS7 i hil htk, ?_⟩ | refine .inl ⟨_, _, hF14, ?_⟩ | refine ⟨_, _, hF14, ?_⟩ | refine .inl ⟨_, _, hF15, ?_⟩ | refine ⟨_, _, hF15, ?_⟩ | refine .inl ⟨_, _, hA, ?_⟩ | refine ⟨_, _, hA, ?_⟩ | refine .inl ⟨_, _, hA2, ?_⟩ | refine ⟨_, _, hA2, ?_⟩ | refine .inl ⟨_, _, hA3, ?_⟩ | refine ⟨_, _, hA3, ?_⟩ | refine .inl ⟨_, _, hA5, ?_⟩ | refine ⟨_, _, hA5, ?_⟩ | refine .inl ⟨_, _, hN23 n k hn5 hk5, ?_⟩ | refine ⟨_, _, hN23 n k hn5 hk5, ?_⟩ | refine .inl ⟨_, _, hB24, ?_⟩ | refine ⟨_, _, hB24, ?_⟩ | refine .inl ⟨_, _, hW27 j hj5, ?_⟩ | refine ⟨_, _, hW27 j hj5, ?_⟩ | refine .inl ⟨_, _, hW28 j hj5, ?_⟩ | refine ⟨_, _, hW28 j hj5, ?_⟩ | (refine st ?_; try simp only [map_ren_encT, nilP, encSpec, madeP, ren_madeV, sealed_madeV, noOb_madeV, dec_self, beq_self_eq_true, ByteArray.size_append]) | simp only [map_ren_encT, nilP, encSpec, madeP, ren_madeV, sealed_madeV, noOb_madeV, dec_self, beq_self_eq_true, ByteArray.size_append])
  all_goals
  refine sZ [1, 2, 3, 4, 11, 12] (fun P S K => XvFnIV P (M S.hp S.nx) (.fn 34 []) [(S.get 1), (.atom (.int .i64 0))] (fun r1 e1 => K ⟨[(1, S.get 1), (2, S.get 2), (3, S.get 3), (4, S.get 4), (11, S.get 11), (12, r1)], (Eff.hp e1 S.nx S.hp), (S.nx + e1.add.length), S.gh⟩)) fun K hK => ?_
  repeat' (first | (refine hK _ ?_; clear hK K) | ((first | refine xG_intro (fun hg => ?_) (fun hg => ?_) | refine fun (hg : (_ : Prop)) => ?_) <;> ((try simp only [BQ] at hg); try (exfalso; omega))) | refine And.intro ?_ ?_ | exact cl | exact one_encT _ | refine one_take ?_ _ | refine one_drop ?_ _ | refine .inl ⟨_, _, hown, ?_⟩ | refine ⟨_, _, hown, ?_⟩ | refine .inl ⟨_, _, hT0, ?_⟩ | refine ⟨_, _, hT0, ?_⟩ | refine .inl ⟨_, _, hT5, ?_⟩ | refine ⟨_, _, hT5, ?_⟩ | refine .inl ⟨_, _, hS7 i hil htk, ?_⟩ | refine ⟨_, _, hS7 i hil htk, ?_⟩ | refine .inl ⟨_, _, hF14, ?_⟩ | refine ⟨_, _, hF14, ?_⟩ | refine .inl ⟨_, _, hF15, ?_⟩ | refine ⟨_, _, hF15, ?_⟩ | refine .inl ⟨_, _, hA, ?_⟩ | refine ⟨_, _, hA, ?_⟩ | refine .inl ⟨_, _, hA2, ?_⟩ | refine ⟨_, _, hA2, ?_⟩ | refine .inl ⟨_, _, hA3, ?_⟩ | refine ⟨_, _, hA3, ?_⟩ | refine .inl ⟨_, _, hA5, ?_⟩ | refine ⟨_, _, hA5, ?_⟩ | refine .inl ⟨_, _, hN23 n k hn5 hk5, ?_⟩ | refine ⟨_, _, hN23 n k hn5 hk5, ?_⟩ | refine .inl ⟨_, _, hB24, ?_⟩ | refine ⟨_, _, hB24, ?_⟩ | refine .inl ⟨_, _, hW27 j hj5, ?_⟩ | refine ⟨_, _, hW27 j hj5, ?_⟩ | refine .inl ⟨_, _, hW28 j hj5, ?_⟩ | refine ⟨_, _, hW28 j hj5, ?_⟩ | (refine st ?_; try simp only [map_ren_encT, nilP, encSpec, madeP, ren_madeV, sealed_madeV, noOb_madeV, dec_self, beq_self_eq_true, ByteArray.size_append]) | simp only [map_ren_encT, nilP, encSpec, madeP, ren_madeV, sealed_madeV, noOb_madeV, dec_self, beq_self_eq_true, ByteArray.size_append])
  all_goals
  refine sZ [1, 2, 3, 4, 11, 12, 13] (fun P S K => XvFnIV P (M S.hp S.nx) (.fn 35 []) [(S.get 12)] (fun r1 e1 => K ⟨[(1, S.get 1), (2, S.get 2), (3, S.get 3), (4, S.get 4), (11, S.get 11), (12, S.get 12), (13, r1)], (Eff.hp e1 S.nx S.hp), (S.nx + e1.add.length), S.gh⟩)) fun K hK => ?_
  repeat' (first | (refine hK _ ?_; clear hK K) | ((first | refine xG_intro (fun hg => ?_) (fun hg => ?_) | refine fun (hg : (_ : Prop)) => ?_) <;> ((try simp only [BQ] at hg); try (exfalso; omega))) | refine And.intro ?_ ?_ | exact cl | exact one_encT _ | refine one_take ?_ _ | refine one_drop ?_ _ | refine .inl ⟨_, _, hown, ?_⟩ | refine ⟨_, _, hown, ?_⟩ | refine .inl ⟨_, _, hT0, ?_⟩ | refine ⟨_, _, hT0, ?_⟩ | refine .inl ⟨_, _, hT5, ?_⟩ | refine ⟨_, _, hT5, ?_⟩ | refine .inl ⟨_, _, split_pure t (by omega), ?_⟩ | refine ⟨_, _, split_pure t (by omega), ?_⟩ | refine .inl ⟨_, _, hS7 i hil htk, ?_⟩ | refine ⟨_, _, hS7 i hil htk, ?_⟩ | refine .inl ⟨_, _, hF14, ?_⟩ | refine ⟨_, _, hF14, ?_⟩ | refine .inl ⟨_, _, hF15, ?_⟩ | refine ⟨_, _, hF15, ?_⟩ | refine .inl ⟨_, _, hA, ?_⟩ | refine ⟨_, _, hA, ?_⟩ | refine .inl ⟨_, _, hA2, ?_⟩ | refine ⟨_, _, hA2, ?_⟩ | refine .inl ⟨_, _, hA3, ?_⟩ | refine ⟨_, _, hA3, ?_⟩ | refine .inl ⟨_, _, hA5, ?_⟩ | refine ⟨_, _, hA5, ?_⟩ | refine .inl ⟨_, _, hN23 n k hn5 hk5, ?_⟩ | refine ⟨_, _, hN23 n k hn5 hk5, ?_⟩ | refine .inl ⟨_, _, hB24, ?_⟩ | refine ⟨_, _, hB24, ?_⟩ | refine .inl ⟨_, _, hW27 j hj5, ?_⟩ | refine ⟨_, _, hW27 j hj5, ?_⟩ | refine .inl ⟨_, _, hW28 j hj5, ?_⟩ | refine ⟨_, _, hW28 j hj5, ?_⟩ | (refine st ?_; try simp only [map_ren_encT, nilP, encSpec, madeP, ren_madeV, sealed_madeV, noOb_madeV, dec_self, beq_self_eq_true, ByteArray.size_append]) | simp only [map_ren_encT, nilP, encSpec, madeP, ren_madeV, sealed_madeV, noOb_madeV, dec_self, beq_self_eq_true, ByteArray.size_append])
  all_goals
  refine Tri.cut (α := Unit) (fun ⟨⟩ => ⟨[(1, ints m), (2, encI a), (3, encI b), (4, encI at_), (11, .ptr 0 4 0 0), (12, encS t)], [(0, some ⟨4, [encSpec s]⟩)], 1, []⟩) ?_ ?_
  ·skip
   refine sZ [1, 2, 3, 4, 11, 12, 13, 14] (fun P S K => K ⟨[(1, S.get 1), (2, S.get 2), (3, S.get 3), (4, S.get 4), (11, S.get 11), (12, S.get 12), (13, S.get 13), (14, (.atom (.int .i64 0)))], S.hp, S.nx, S.gh⟩) fun K hK => ?_
   repeat' (first | (refine hK _ ?_; clear hK K) | ((first | refine xG_intro (fun hg => ?_) (fun hg => ?_) | refine fun (hg : (_ : Prop)) => ?_) <;> ((try simp only [BQ] at hg); try (exfalso; omega))) | refine And.intro ?_ ?_ | exact cl | exact one_encT _ | refine one_take ?_ _ | refine one_drop ?_ _ | (refine st ?_; try simp only [map_ren_encT, nilP, encSpec, madeP, ren_madeV, sealed_madeV, noOb_madeV, dec_self, beq_self_eq_true, ByteArray.size_append]) | simp only [map_ren_encT, nilP, encSpec, madeP, ren_madeV, sealed_madeV, noOb_madeV, dec_self, beq_self_eq_true, ByteArray.size_append])
   all_goals
   refine Tri.block ?_
   refine Tri.loop (α := (i : Nat) ×' (i ≤ s.skip.length)) (fun z => (fun (i : Nat) => (⟨[(1, ints m), (2, encI a), (3, encI b), (4, encI at_), (11, .ptr 0 4 0 0), (12, encS t), (13, .ob 1 3 0 (tokL t).length), (14, encI i)], [(0, some ⟨4, [encSpec s]⟩), (1, some ⟨3, (tokL t).map encT⟩)], 2, []⟩ : St)) z.1) (fun z => (fun (i : Nat) => s.skip.length - i) z.1) ⟨0, Nat.zero_le _⟩ [0, 1] ?_ ?_
   ·exact leqW42
   ·rintro ⟨i, hi⟩
    refine Tri.seq ?_
    refine sZ [1, 2, 3, 4, 11, 12, 13, 14, 52] (fun P S K => XvFieldAddr P 33 1 (S.get 11) (fun r1 _ => XvLoad P 25 (M S.hp S.nx) r1 (fun r2 _ => XvLen P 25 r2 (fun r3 _ => XvBinOV P .lss 3 (.tmp 46) (S.get 14) r3 (fun r4 _ => Xgq r4 true (fun k => k (S.get 13)) (fun g6 r6 => Xgq g6 true (fun k => XvLen P 68 r6 (fun r7 _ => k r7)) (fun g7 r7 => Xgq g7 true (fun k => XvBinOV P .gtr 3 (.const (.int .i64 0)) r7 (.atom (.int .i64 0)) (fun r8 _ => k r8)) (fun g8 r8 => XvPick g8 r8 (.atom (.bool false)) (fun r9 _ => K ⟨[(1, S.get 1), (2, S.get 2), (3, S.get 3), (4, S.get 4), (11, S.get 11), (12, S.get 12), (13, S.get 13), (14, S.get 14), (52, r9)], S.hp, S.nx, S.gh⟩))))))))) fun K hK => ?_
    repeat' (first | (refine hK _ ?_; clear hK K) | ((first | refine xG_intro (fun hg => ?_) (fun hg => ?_) | refine fun (hg : (_ : Prop)) => ?_) <;> ((try simp only [BQ] at hg); try (exfalso; omega))) | refine And.intro ?_ ?_ | exact cl | exact one_encT _ | refine one_take ?_ _ | refine one_drop ?_ _ | (refine st ?_; try simp only [map_ren_encT, nilP, encSpec, madeP, ren_madeV, sealed_madeV, noOb_madeV, dec_self, beq_self_eq_true, ByteArray.size_append]) | simp only [map_ren_encT, nilP, encSpec, madeP, ren_madeV, sealed_madeV, noOb_madeV, dec_self, beq_self_eq_true, ByteArray.size_append])
    all_goals
    refine Tri.cond rfl (fun h52 => ?_) (fun h52 => ?_)
    ·try (cases h52; done)
     all_goals (try simp only [CQ] at h52)
     all_goals
     refine Tri.skip ?_
     refine Tri.seq ?_
     refine Tri.block ?_
     have hle0 : (s.skip.map encS).length = s.skip.length := List.length_map _
     have hil : i < s.skip.length := by omega
     have htk : tokL t ≠ [] := fun e => by have h0 : (tokL t).length = 0 := (by rw [e]; rfl); omega
     have hsi := hsks _ (ls_mem hil)
     refine sD 16 [1, 2, 3, 4, 11, 12, 13, 14, 15, 16] (fun P GD S K => XvLoad P 33 (M S.hp S.nx) (S.get 11) (fun r0 e0 => XvFieldAddr P 33 1 (S.get 11) (fun r1 e1 => XvLoad P 25 (M S.hp S.nx) r1 (fun r2 e2 => XvIndexAddr P 25 r2 (S.get 14) (fun r4 e4 => XvLoad P 9 (M S.hp S.nx) r4 (fun r5 e5 => XvBinOV P .add 9 (.const (.string { data := #[32] })) r5 (.atom (.string { data := #[32] })) (fun r6 e6 => XvBinOV P .add 9 (.tmp 63) r6 (S.get 12) (fun r8 e8 => XvFnV P (M S.hp S.nx) (.fn 20 []) [r0, r8, (S.get 12)] (fun r10 e10 => XvExtract r10 0 (fun r12 e12 => XvExtract r10 1 (fun r13 e13 => (trOk S.nx GD [⟨S.nx, 0, e0.rd, [], []⟩, ⟨S.nx, 0, e1.rd, [], []⟩, ⟨S.nx, 0, e2.rd, [], []⟩, ⟨S.nx, 0, [], [], []⟩, ⟨S.nx, 0, e4.rd, [], []⟩, ⟨S.nx, 0, e5.rd, [], []⟩, ⟨S.nx, 0, e6.rd, [], []⟩, ⟨S.nx, 0, [], [], []⟩, ⟨S.nx, 0, e8.rd, [], []⟩, ⟨S.nx, 0, [], [], []⟩, (Eff.tr e10 S.nx), ⟨(S.nx + e10.add.length), 0, [], [], []⟩, ⟨(S.nx + e10.add.length), 0, e12.rd, [], []⟩, ⟨(S.nx + e10.add.length), 0, e13.rd, [], []⟩, ⟨(S.nx + e10.add.length), 0, [], [], []⟩, ⟨(S.nx + e10.add.length), 0, [], [], []⟩] = true ∧ K ⟨[(1, S.get 1), (2, S.get 2), (3, S.get 3), (4, S.get 4), (11, S.get 11), (12, S.get 12), (13, S.get 13), (14, S.get 14), (15, r12), (16, r13)], (Eff.hp e10 S.nx S.hp), (S.nx + e10.add.length), S.gh⟩)))))))))))) fun K hK => ?_
     repeat' (first | (refine hK _ ?_; clear hK K) | (refine (?_ : trOk _ _ _ = true); kernel_rfl) | ((first | refine xG_intro (fun hg => ?_) (fun hg => ?_) | refine fun (hg : (_ : Prop)) => ?_) <;> ((try simp only [BQ] at hg); try (exfalso; omega))) | refine And.intro ?_ ?_ | exact cl | exact one_encT _ | refine one_take ?_ _ | refine one_drop ?_ _ | refine .inl ⟨_, _, hown, ?_⟩ | refine ⟨_, _, hown, ?_⟩ | refine .inl ⟨_, _, hT0, ?_⟩ | refine ⟨_, _, hT0, ?_⟩ | refine .inl ⟨_, _, hT5, ?_⟩ | refine ⟨_, _, hT5, ?_⟩ | refine .inl ⟨_, _, hS7 i hil htk, ?_⟩ | refine ⟨_, _, hS7 i hil htk, ?_⟩ | refine .inl ⟨_, _, hF14, ?_⟩ | refine ⟨_, _, hF14, ?_⟩ | refine .inl ⟨_, _, hF15, ?_⟩ | refine ⟨_, _, hF15, ?_⟩ | refine .inl ⟨_, _, hA, ?_⟩ | refine ⟨_, _, hA, ?_⟩ | refine .inl ⟨_, _, hA2, ?_⟩ | refine ⟨_, _, hA2, ?_⟩ | refine .inl ⟨_, _, hA3, ?_⟩ | refine ⟨_, _, hA3, ?_⟩ | refine .inl ⟨_, _, hA5, ?_⟩ | refine ⟨_, _, hA5, ?_⟩ | refine .inl ⟨_, _, hN23 n k hn5 hk5, ?_⟩ | refine ⟨_, _, hN23 n k hn5 hk5, ?_⟩ | refine .inl ⟨_, _, hB24, ?_⟩ | refine ⟨_, _, hB24, ?_⟩ | refine .inl ⟨_, _, hW27 j hj5, ?_⟩ | refine ⟨_, _, hW27 j hj5, ?_⟩ | refine .inl ⟨_, _, hW28 j hj5, ?_⟩ | refine ⟨_, _, hW28 j hj5, ?_⟩ | (refine st ?_; try simp only [map_ren_encT, nilP, encSpec, madeP, ren_madeV, sealed_madeV, noOb_madeV, dec_self, beq_self_eq_true, ByteArray.size_append, getD_encS hil, wrap_id (x := (i : Int) + 1) (by omega) (by omega)]) | simp only [map_ren_encT, nilP, encSpec, madeP, ren_madeV, sealed_madeV, noOb_madeV, dec_self, beq_self_eq_true, ByteArray.size_append, getD_encS hil, wrap_id (x := (i : Int) + 1) (by omega) (by omega)])
     all_goals try simp (disch := omega) only [wrap_id, wrap8_id]
     all_goals
     refine sZ [1, 2, 3, 4, 11, 12, 13, 14, 74] (fun P S K => XvBinOV P .neq 3 (.const (.int .i64 0)) (S.get 15) (.atom (.int .i64 0)) (fun r1 _ => Xgq r1 false (fun k => k (S.get 16)) (fun g3 r3 => Xgq g3 false (fun k => XvBinOV P .neq 30 (.const (.int .i64 0)) r3 (.atom (.int .i64 0)) (fun r4 _ => k r4)) (fun g4 r4 => XvPick g4 (.atom (.bool true)) r4 (fun r5 _ => K ⟨[(1, S.get 1), (2, S.get 2), (3, S.get 3), (4, S.get 4), (11, S.get 11), (12, S.get 12), (13, S.get 13), (14, S.get 14), (74, r5)], S.hp, S.nx, S.gh⟩))))) fun K hK => ?_
     repeat' (first | (refine hK _ ?_; clear hK K) | ((first | refine xG_intro (fun hg => ?_) (fun hg => ?_) | refine fun (hg : (_ : Prop)) => ?_) <;> ((try simp only [BQ] at hg); try (exfalso; omega))) | refine And.intro ?_ ?_ | exact cl | exact one_encT _ | refine one_take ?_ _ | refine one_drop ?_ _ | (refine st ?_; try simp only [map_ren_encT, nilP, encSpec, madeP, ren_madeV, sealed_madeV, noOb_madeV, dec_self, beq_self_eq_true, ByteArray.size_append]) | simp only [map_ren_encT, nilP, encSpec, madeP, ren_madeV, sealed_madeV, noOb_madeV, dec_self, beq_self_eq_true, ByteArray.size_append])
     all_goals
     refine Tri.cond rfl (fun h74 => ?_) (fun h74 => ?_)
     ·try (cases h74; done)
      all_goals (try simp only [CQ] at h74)
      all_goals
      refine sZ [10] (fun P S K => K ⟨[(10, (.atom (.bool false)))], S.hp, S.nx, S.gh⟩) fun K hK => ?_
      repeat' (first | (refine hK _ ?_; clear hK K) | ((first | refine xG_intro (fun hg => ?_) (fun hg => ?_) | refine fun (hg : (_ : Prop)) => ?_) <;> ((try simp only [BQ] at hg); try (exfalso; omega))) | refine And.intro ?_ ?_ | exact cl | exact one_encT _ | refine one_take ?_ _ | refine one_drop ?_ _ | (refine st ?_; try simp only [map_ren_encT, nilP, encSpec, madeP, ren_madeV, sealed_madeV, noOb_madeV, dec_self, beq_self_eq_true, ByteArray.size_append]) | simp only [map_ren_encT, nilP, encSpec, madeP, ren_madeV, sealed_madeV, noOb_madeV, dec_self, beq_self_eq_true, ByteArray.size_append])
      all_goals
      refine Tri.ret ?_
      show ResOk _ _ _ _
      exact ResOk.val lsrW42 lpvW42
     ·try (cases h74; done)
      all_goals (try simp only [CQ] at h74)
      all_goals
      refine Tri.skip ?_
      refine rZ [1, 2, 3, 4, 11, 12, 13, 14] (fun P S K => XvBinOV P .add 3 (.const (.int .i64 1)) (S.get 14) (.atom (.int .i64 1)) (fun r1 _ => K ⟨[(1, S.get 1), (2, S.get 2), (3, S.get 3), (4, S.get 4), (11, S.get 11), (12, S.get 12), (13, S.get 13), (14, r1)], S.hp, S.nx, S.gh⟩)) fun K hK => ?_
      repeat' (first | (refine hK _ ?_; clear hK K) | ((first | refine xG_intro (fun hg => ?_) (fun hg => ?_) | refine fun (hg : (_ : Prop)) => ?_) <;> ((try simp only [BQ] at hg); try (exfalso; omega))) | refine And.intro ?_ ?_ | exact cl | exact one_encT _ | refine one_take ?_ _ | refine one_drop ?_ _ | (refine st ?_; try simp only [map_ren_encT, nilP, encSpec, madeP, ren_madeV, sealed_madeV, noOb_madeV, dec_self, beq_self_eq_true, ByteArray.size_append]) | simp only [map_ren_encT, nilP, encSpec, madeP, ren_madeV, sealed_madeV, noOb_madeV, dec_self, beq_self_eq_true, ByteArray.size_append])
      all_goals try simp (disch := omega) only [wrap_id, wrap8_id]
      all_goals
      refine ⟨⟨i + 1, by omega⟩, [0, 1], by dsimp only; omega, ?_⟩
      exact leqW42
    ·try (cases h52; done)
     all_goals (try simp only [CQ] at h52)
     all_goals
     refine Tri.exit ?_
     refine ⟨(), [0], ?_⟩
     exact leqW42
  ·rintro ⟨⟩
   refine sZ [1, 2, 3, 4, 11, 12, 17] (fun P S K => XvLoad P 33 (M S.hp S.nx) (S.get 11) (fun r0 _ => XvAlloc P 33 S.nx (fun r1 e1 => XvStore P 33 (M (Eff.hp e1 S.nx S.hp) (S.nx + e1.add.length)) r1 r0 (fun r2 e2 => K ⟨[(1, S.get 1), (2, S.get 2), (3, S.get 3), (4, S.get 4), (11, S.get 11), (12, S.get 12), (17, r1)], (Eff.hp e2 (S.nx + e1.add.length) (Eff.hp e1 S.nx S.hp)), ((S.nx + e1.add.length) + e2.add.length), S.gh⟩)))) fun K hK => ?_
   repeat' (first | (refine hK _ ?_; clear hK K) | ((first | refine xG_intro (fun hg => ?_) (fun hg => ?_) | refine fun (hg : (_ : Prop)) => ?_) <;> ((try simp only [BQ] at hg); try (exfalso; omega))) | refine And.intro ?_ ?_ | exact cl | exact one_encT _ | refine one_take ?_ _ | refine one_drop ?_ _ | (refine st ?_; try simp only [map_ren_encT, nilP, encSpec, madeP, ren_madeV, sealed_madeV, noOb_madeV, dec_self, beq_self_eq_true, ByteArray.size_append]) | simp only [map_ren_encT, nilP, encSpec, madeP, ren_madeV, sealed_madeV, noOb_madeV, dec_self, beq_self_eq_true, ByteArray.size_append])
   all_goals
   refine sZ [1, 2, 3, 4, 11, 12, 17] (fun P S K => XvFieldAddr P 33 1 (S.get 17) (fun r0 _ => XvStore P 25 (M S.hp S.nx) r0 (.atom (.slice none 0 0)) (fun r1 e1 => K ⟨[(1, S.get 1), (2, S.get 2), (3, S.get 3), (4, S.get 4), (11, S.get 11), (12, S.get 12), (17, S.get 17)], (Eff.hp e1 S.nx S.hp), (S.nx + e1.add.length), S.gh⟩))) fun K hK => ?_
   repeat' (first | (refine hK _ ?_; clear hK K) | ((first | refine xG_intro (fun hg => ?_) (fun hg => ?_) | refine fun (hg : (_ : Prop)) => ?_) <;> ((try simp only [BQ] at hg); try (exfalso; omega))) | refine And.intro ?_ ?_ | exact cl | exact one_encT _ | refine one_take ?_ _ | refine one_drop ?_ _ | (refine st ?_; try simp only [map_ren_encT, nilP, encSpec, madeP, ren_madeV, sealed_madeV, noOb_madeV, dec_self, beq_self_eq_true, ByteArray.size_append]) | simp only [map_ren_encT, nilP, encSpec, madeP, ren_madeV, sealed_madeV, noOb_madeV, dec_self, beq_self_eq_true, ByteArray.size_append])
   all_goals
   refine sZ [1, 2, 3, 4, 11, 12, 17, 18] (fun P S K => XvLoad P 33 (M S.hp S.nx) (S.get 17) (fun r0 _ => XvAlloc P 33 S.nx (fun r1 e1 => XvStore P 33 (M (Eff.hp e1 S.nx S.hp) (S.nx + e1.add.length)) r1 r0 (fun r2 e2 => K ⟨[(1, S.get 1), (2, S.get 2), (3, S.get 3), (4, S.get 4), (11, S.get 11), (12, S.get 12), (17, S.get 17), (18, r1)], (Eff.hp e2 (S.nx + e1.add.length) (Eff.hp e1 S.nx S.hp)), ((S.nx + e1.add.length) + e2.add.length), S.gh⟩)))) fun K hK => ?_
   repeat' (first | (refine hK _ ?_; clear hK K) | ((first | refine xG_intro (fun hg => ?_) (fun hg => ?_) | refine fun (hg : (_ : Prop)) => ?_) <;> ((try simp only [BQ] at hg); try (exfalso; omega))) | refine And.intro ?_ ?_ | exact cl | exact one_encT _ | refine one_take ?_ _ | refine one_drop ?_ _ | (refine st ?_; try simp only [map_ren_encT, nilP, encSpec, madeP, ren_madeV, sealed_madeV, noOb_madeV, dec_self, beq_self_eq_true, ByteArray.size_append]) | simp only [map_ren_encT, nilP, encSpec, madeP, ren_madeV, sealed_madeV, noOb_madeV, dec_self, beq_self_eq_true, ByteArray.size_append])
   all_goals
   refine sZ [1, 2, 3, 4, 11, 12, 17, 18] (fun P S K => XvFieldAddr P 33 0 (S.get 18) (fun r0 _ => XvStore P 4 (M S.hp S.nx) r0 (.atom (.bool false)) (fun r1 e1 => K ⟨[(1, S.get 1), (2, S.get 2), (3, S.get 3), (4, S.get 4), (11, S.get 11), (12, S.get 12), (17, S.get 17), (18, S.get 18)], (Eff.hp e1 S.nx S.hp), (S.nx + e1.add.length), S.gh⟩))) fun K hK => ?_
   repeat' (first | (refine hK _ ?_; clear hK K) | ((first | refine xG_intro (fun hg => ?_) (fun hg => ?_) | refine fun (hg : (_ : Prop)) => ?_) <;> ((try simp only [BQ] at hg); try (exfalso; omega))) | refine And.intro ?_ ?_ | exact cl | exact one_encT _ | refine one_take ?_ _ | refine one_drop ?_ _ | (refine st ?_; try simp only [map_ren_encT, nilP, encSpec, madeP, ren_madeV, sealed_madeV, noOb_madeV, dec_self, beq_self_eq_true, ByteArray.size_append]) | simp only [map_ren_encT, nilP, encSpec, madeP, ren_madeV, sealed_madeV, noOb_madeV, dec_self, beq_self_eq_true, ByteArray.size_append])
   all_goals
   refine sZ [1, 2, 3, 4, 11, 12, 17, 18, 19, 20] (fun P S K => XvLoad P 33 (M S.hp S.nx) (S.get 18) (fun r0 _ => XvFnIV P (M S.hp S.nx) (.fn 20 []) [r0, (.atom (.string { data := #[111, 100, 101, 32, 116, 111, 32, 116, 104, 101, 32, 107, 105, 110, 103] })), (.atom (.string { data := #[111, 100, 101, 116, 111, 32, 32, 116, 104, 101, 107, 105, 110, 103, 32] }))] (fun r1 e1 => XvExtract r1 0 (fun r3 _ => XvExtract r1 1 (fun r4 _ => K ⟨[(1, S.get 1), (2, S.get 2), (3, S.get 3), (4, S.get 4), (11, S.get 11), (12, S.get 12), (17, S.get 17), (18, S.get 18), (19, r3), (20, r4)], (Eff.hp e1 S.nx S.hp), (S.nx + e1.add.length), S.gh⟩))))) fun K hK => ?_
   repeat' (first | (refine hK _ ?_; clear hK K) | ((first | refine xG_intro (fun hg => ?_) (fun hg => ?_) | refine fun (hg : (_ : Prop)) => ?_) <;> ((try simp only [BQ] at hg); try (exfalso; omega))) | refine And.intro ?_ ?_ | exact cl | exact one_encT _ | refine one_take ?_ _ | refine one_drop ?_ _ | refine .inl ⟨_, _, hown, ?_⟩ | refine ⟨_, _, hown, ?_⟩ | refine .inl ⟨_, _, hT0, ?_⟩ | refine ⟨_, _, hT0, ?_⟩ | refine .inl ⟨_, _, hT5, ?_⟩ | refine ⟨_, _, hT5, ?_⟩ | refine .inl ⟨_, _, hS7 i hil htk, ?_⟩ | refine ⟨_, _, hS7 i hil htk, ?_⟩ | refine .inl ⟨_, _, hF14, ?_⟩ | refine ⟨_, _, hF14, ?_⟩ | refine .inl ⟨_, _, hF15, ?_⟩ | refine ⟨_, _, hF15, ?_⟩ | refine .inl ⟨_, _, hA, ?_⟩ | refine ⟨_, _, hA, ?_⟩ | refine .inl ⟨_, _, hA2, ?_⟩ | refine ⟨_, _, hA2, ?_⟩ | refine .inl ⟨_, _, hA3, ?_⟩ | refine ⟨_, _, hA3, ?_⟩ | refine .inl ⟨_, _, hA5, ?_⟩ | refine ⟨_, _, hA5, ?_⟩ | refine .inl ⟨_, _, hN23 n k hn5 hk5, ?_⟩ | refine ⟨_, _, hN23 n k hn5 hk5, ?_⟩ | refine .inl ⟨_, _, hB24, ?_⟩ | refine ⟨_, _, hB24, ?_⟩ | refine .inl ⟨_, _, hW27 j hj5, ?_⟩ | refine ⟨_, _, hW27 j hj5, ?_⟩ | refine .inl ⟨_, _, hW28 j hj5, ?_⟩ | refine ⟨_, _, hW28 j hj5, ?_⟩ | (refine st ?_; try simp only [map_ren_encT, nilP, encSpec, madeP, ren_madeV, sealed_madeV, noOb_madeV, dec_self, beq_self_eq_true, ByteArray.size_append]) | simp only [map_ren_encT, nilP, encSpec, madeP, ren_madeV, sealed_madeV, noOb_madeV, dec_self, beq_self_eq_true, ByteArray.size_append])
   all_goals
   refine sZ [1, 2, 3, 4, 11, 12, 17, 19, 20, 21, 22] (fun P S K => XvLoad P 33 (M S.hp S.nx) (S.get 18) (fun r0 _ => XvFnIV P (M S.hp S.nx) (.fn 20 []) [r0, (.atom (.string { data := #[111, 100, 101, 32, 116, 111, 32, 116, 104, 101, 32, 107, 105, 110, 103] })), (.atom (.string { data := #[111, 100, 100, 32, 116, 111, 32, 116, 104, 101, 32, 107, 105, 110, 103] }))] (fun r1 e1 => XvExtract r1 0 (fun r3 _ => XvExtract r1 1 (fun r4 _ => K ⟨[(1, S.get 1), (2, S.get 2), (3, S.get 3), (4, S.get 4), (11, S.get 11), (12, S.get 12), (17, S.get 17), (19, S.get 19), (20, S.get 20), (21, r3), (22, r4)], (Eff.hp e1 S.nx S.hp), (S.nx + e1.add.length), S.gh⟩))))) fun K hK => ?_
   repeat' (first | (refine hK _ ?_; clear hK K) | ((first | refine xG_intro (fun hg => ?_) (fun hg => ?_) | refine fun (hg : (_ : Prop)) => ?_) <;> ((try simp only [BQ] at hg); try (exfalso; omega))) | refine And.intro ?_ ?_ | exact cl | exact one_encT _ | refine one_take ?_ _ | refine one_drop ?_ _ | refine .inl ⟨_, _, hown, ?_⟩ | refine ⟨_, _, hown, ?_⟩ | refine .inl ⟨_, _, hT0, ?_⟩ | refine ⟨_, _, hT0, ?_⟩ | refine .inl ⟨_, _, hT5, ?_⟩ | refine ⟨_, _, hT5, ?_⟩ | refine .inl ⟨_, _, hS7 i hil htk, ?_⟩ | refine ⟨_, _, hS7 i hil htk, ?_⟩ | refine .inl ⟨_, _, hF14, ?_⟩ | refine ⟨_, _, hF14, ?_⟩ | refine .inl ⟨_, _, hF15, ?_⟩ | refine ⟨_, _, hF15, ?_⟩ | refine .inl ⟨_, _, hA, ?_⟩ | refine ⟨_, _, hA, ?_⟩ | refine .inl ⟨_, _, hA2, ?_⟩ | refine ⟨_, _, hA2, ?_⟩ | refine .inl ⟨_, _, hA3, ?_⟩ | refine ⟨_, _, hA3, ?_⟩ | refine .inl ⟨_, _, hA5, ?_⟩ | refine ⟨_, _, hA5, ?_⟩ | refine .inl ⟨_, _, hN23 n k hn5 hk5, ?_⟩ | refine ⟨_, _, hN23 n k hn5 hk5, ?_⟩ | refine .inl ⟨_, _, hB24, ?_⟩ | refine ⟨_, _, hB24, ?_⟩ | refine .inl ⟨_, _, hW27 j hj5, ?_⟩ | refine ⟨_, _, hW27 j hj5, ?_⟩ | refine .inl ⟨_, _, hW28 j hj5, ?_⟩ | refine ⟨_, _, hW28 j hj5, ?_⟩ | (refine st ?_; try simp only [map_ren_encT, nilP, encSpec, madeP, ren_madeV, sealed_madeV, noOb_madeV, dec_self, beq_self_eq_true, ByteArray.size_append]) | simp only [map_ren_encT, nilP, encSpec, madeP, ren_madeV, sealed_madeV, noOb_madeV, dec_self, beq_self_eq_true, ByteArray.size_append])
   all_goals
   refine sZ [1, 2, 3, 4, 12, 17, 19, 20, 21, 22, 23] (fun P S K => XvLoad P 33 (M S.hp S.nx) (S.get 11) (fun r0 _ => XvAlloc P 33 S.nx (fun r1 e1 => XvStore P 33 (M (Eff.hp e1 S.nx S.hp) (S.nx + e1.add.length)) r1 r0 (fun r2 e2 => K ⟨[(1, S.get 1), (2, S.get 2), (3, S.get 3), (4, S.get 4), (12, S.get 12), (17, S.get 17), (19, S.get 19), (20, S.get 20), (21, S.get 21), (22, S.get 22), (23, r1)], (Eff.hp e2 (S.nx + e1.add.length) (Eff.hp e1 S.nx S.hp)), ((S.nx + e1.add.length) + e2.add.length), S.gh⟩)))) fun K hK => ?_
   repeat' (first | (refine hK _ ?_; clear hK K) | ((first | refine xG_intro (fun hg => ?_) (fun hg => ?_) | refine fun (hg : (_ : Prop)) => ?_) <;> ((try simp only [BQ] at hg); try (exfalso; omega))) | refine And.intro ?_ ?_ | exact cl | exact one_encT _ | refine one_take ?_ _ | refine one_drop ?_ _ | (refine st ?_; try simp only [map_ren_encT, nilP, encSpec, madeP, ren_madeV, sealed_madeV, noOb_madeV, dec_self, beq_self_eq_true, ByteArray.size_append]) | simp only [map_ren_encT, nilP, encSpec, madeP, ren_madeV, sealed_madeV, noOb_madeV, dec_self, beq_self_eq_true, ByteArray.size_append])
   all_goals
   refine sZ [1, 2, 3, 4, 12, 17, 19, 20, 21, 22, 23] (fun P S K => XvFieldAddr P 33 2 (S.get 23) (fun r0 _ => XvStore P 4 (M S.hp S.nx) r0 (.atom (.bool true)) (fun r1 e1 => K ⟨[(1, S.get 1), (2, S.get 2), (3, S.get 3), (4, S.get 4), (12, S.get 12), (17, S.get 17), (19, S.get 19), (20, S.get 20), (21, S.get 21), (22, S.get 22), (23, S.get 23)], (Eff.hp e1 S.nx S.hp), (S.nx + e1.add.length), S.gh⟩))) fun K hK => ?_
   repeat' (first | (refine hK _ ?_; clear hK K) | ((first | refine xG_intro (fun hg => ?_) (fun hg => ?_) | refine fun (hg : (_ : Prop)) => ?_) <;> ((try simp only [BQ] at hg); try (exfalso; omega))) | refine And.intro ?_ ?_ | exact cl | exact one_encT _ | refine one_take ?_ _ | refine one_drop ?_ _ | (refine st ?_; try simp only [map_ren_encT, nilP, encSpec, madeP, ren_madeV, sealed_madeV, noOb_madeV, dec_self, beq_self_eq_true, ByteArray.size_append]) | simp only [map_ren_encT, nilP, encSpec, madeP, ren_madeV, sealed_madeV, noOb_madeV, dec_self, beq_self_eq_true, ByteArray.size_append])
   all_goals
   refine sZ [1, 3, 4, 12, 17, 19, 20, 21, 22, 23, 24] (fun P S K => XvFnIV P (M S.hp S.nx) (.fn 12 []) [(S.get 2), (.atom (.int .i64 100000))] (fun r1 e1 => K ⟨[(1, S.get 1), (3, S.get 3), (4, S.get 4), (12, S.get 12), (17, S.get 17), (19, S.get 19), (20, S.get 20), (21, S.get 21), (22, S.get 22), (23, S.get 23), (24, r1)], (Eff.hp e1 S.nx S.hp), (S.nx + e1.add.length), S.gh⟩)) fun K hK => ?_
   repeat' (first | (refine hK _ ?_; clear hK K) | ((first | refine xG_intro (fun hg => ?_) (fun hg => ?_) | refine fun (hg : (_ : Prop)) => ?_) <;> ((try simp only [BQ] at hg); try (exfalso; omega))) | refine And.intro ?_ ?_ | exact cl | exact one_encT _ | refine one_take ?_ _ | refine one_drop ?_ _ | refine .inl ⟨_, _, hown, ?_⟩ | refine ⟨_, _, hown, ?_⟩ | refine .inl ⟨_, _, hT0, ?_⟩ | refine ⟨_, _, hT0, ?_⟩ | refine .inl ⟨_, _, hT5, ?_⟩ | refine ⟨_, _, hT5, ?_⟩ | refine .inl ⟨_, _, hS7 i hil htk, ?_⟩ | refine ⟨_, _, hS7 i hil htk, ?_⟩ | refine .inl ⟨_, _, hF14, ?_⟩ | refine ⟨_, _, hF14, ?_⟩ | refine .inl ⟨_, _, hF15, ?_⟩ | refine ⟨_, _, hF15, ?_⟩ | refine .inl ⟨_, _, hA, ?_⟩ | refine ⟨_, _, hA, ?_⟩ | refine .inl ⟨_, _, hA2, ?_⟩ | refine ⟨_, _, hA2, ?_⟩ | refine .inl ⟨_, _, hA3, ?_⟩ | refine ⟨_, _, hA3, ?_⟩ | refine .inl ⟨_, _, hA5, ?_⟩ | refine ⟨_, _, hA5, ?_⟩ | refine .inl ⟨_, _, hN23 n k hn5 hk5, ?_⟩ | refine ⟨_, _, hN23 n k hn5 hk5, ?_⟩ | refine .inl ⟨_, _, hB24, ?_⟩ | refine ⟨_, _, hB24, ?_⟩ | refine .inl ⟨_, _, hW27 j hj5, ?_⟩ | refine ⟨_, _, hW27 j hj5, ?_⟩ | refine .inl ⟨_, _, hW28 j hj5, ?_⟩ | refine ⟨_, _, hW28 j hj5, ?_⟩ | (refine st ?_; try simp only [map_ren_encT, nilP, encSpec, madeP, ren_madeV, sealed_madeV, noOb_madeV, dec_self, beq_self_eq_true, ByteArray.size_append]) | simp only [map_ren_encT, nilP, encSpec, madeP, ren_madeV, sealed_madeV, noOb_madeV, dec_self, beq_self_eq_true, ByteArray.size_append])
   all_goals
   refine sZ [1, 4, 12, 17, 19, 20, 21, 22, 23, 24, 25] (fun P S K => XvFnIV P (M S.hp S.nx) (.fn 12 []) [(S.get 3), (.atom (.int .i64 100000))] (fun r1 e1 => K ⟨[(1, S.get 1), (4, S.get 4), (12, S.get 12), (17, S.get 17), (19, S.get 19), (20, S.get 20), (21, S.get 21), (22, S.get 22), (23, S.get 23), (24, S.get 24), (25, r1)], (Eff.hp e1 S.nx S.hp), (S.nx + e1.add.length), S.gh⟩)) fun K hK => ?_
   repeat' (first | (refine hK _ ?_; clear hK K) | ((first | refine xG_intro (fun hg => ?_) (fun hg => ?_) | refine fun (hg : (_ : Prop)) => ?_) <;> ((try simp only [BQ] at hg); try (exfalso; omega))) | refine And.intro ?_ ?_ | exact cl | exact one_encT _ | refine one_take ?_ _ | refine one_drop ?_ _ | refine .inl ⟨_, _, hown, ?_⟩ | refine ⟨_, _, hown, ?_⟩ | refine .inl ⟨_, _, hT0, ?_⟩ | refine ⟨_, _, hT0, ?_⟩ | refine .inl ⟨_, _, hT5, ?_⟩ | refine ⟨_, _, hT5, ?_⟩ | refine .inl ⟨_, _, hS7 i hil htk, ?_⟩ | refine ⟨_, _, hS7 i hil htk, ?_⟩ | refine .inl ⟨_, _, hF14, ?_⟩ | refine ⟨_, _, hF14, ?_⟩ | refine .inl ⟨_, _, hF15, ?_⟩ | refine ⟨_, _, hF15, ?_⟩ | refine .inl ⟨_, _, hA, ?_⟩ | refine ⟨_, _, hA, ?_⟩ | refine .inl ⟨_, _, hA2, ?_⟩ | refine ⟨_, _, hA2, ?_⟩ | refine .inl ⟨_, _, hA3, ?_⟩ | refine ⟨_, _, hA3, ?_⟩ | refine .inl ⟨_, _, hA5, ?_⟩ | refine ⟨_, _, hA5, ?_⟩ | refine .inl ⟨_, _, hN23 n k hn5 hk5, ?_⟩ | refine ⟨_, _, hN23 n k hn5 hk5, ?_⟩ | refine .inl ⟨_, _, hB24, ?_⟩ | refine ⟨_, _, hB24, ?_⟩ | refine .inl ⟨_, _, hW27 j hj5, ?_⟩ | refine ⟨_, _, hW27 j hj5, ?_⟩ | refine .inl ⟨_, _, hW28 j hj5, ?_⟩ | refine ⟨_, _, hW28 j hj5, ?_⟩ | (refine st ?_; try simp only [map_ren_encT, nilP, encSpec, madeP, ren_madeV, sealed_madeV, noOb_madeV, dec_self, beq_self_eq_true, ByteArray.size_append]) | simp only [map_ren_encT, nilP, encSpec, madeP, ren_madeV, sealed_madeV, noOb_madeV, dec_self, beq_self_eq_true, ByteArray.size_append])
   all_goals
   refine Tri.cut (α := (k : Nat) ×' (k < 100000)) (fun ⟨k, hk5⟩ => ⟨[(1, ints m), (4, encI at_), (12, encS t), (17, .ptr 0 4 0 0), (19, encI 0), (20, encI 0), (21, encI y), (22, encI 0), (23, .ptr 1 4 0 0), (24, encI n), (25, encI k)], [(0, some ⟨4, [nilP s.words s.numbers s.order]⟩), (1, some ⟨4, [encSpec ⟨s.words, s.skip, true, s.order⟩]⟩)], 2, []⟩) ?_ ?_
   ·skip
    refine sZ [1, 4, 12, 17, 19, 20, 21, 22, 23, 24, 25, 97] (fun P S K => XvFnIV P (M S.hp S.nx) (.fn 12 []) [(S.get 4), (.atom (.int .i64 3))] (fun r1 e1 => XvBinOV P .eql 3 (.const (.int .i64 0)) r1 (.atom (.int .i64 0)) (fun r2 _ => K ⟨[(1, S.get 1), (4, S.get 4), (12, S.get 12), (17, S.get 17), (19, S.get 19), (20, S.get 20), (21, S.get 21), (22, S.get 22), (23, S.get 23), (24, S.get 24), (25, S.get 25), (97, r2)], (Eff.hp e1 S.nx S.hp), (S.nx + e1.add.length), S.gh⟩))) fun K hK => ?_
    repeat' (first | (refine hK _ ?_; clear hK K) | ((first | refine xG_intro (fun hg => ?_) (fun hg => ?_) | refine fun (hg : (_ : Prop)) => ?_) <;> ((try simp only [BQ] at hg); try (exfalso; omega))) | refine And.intro ?_ ?_ | exact cl | exact one_encT _ | refine one_take ?_ _ | refine one_drop ?_ _ | refine .inl ⟨_, _, hown, ?_⟩ | refine ⟨_, _, hown, ?_⟩ | refine .inl ⟨_, _, hT0, ?_⟩ | refine ⟨_, _, hT0, ?_⟩ | refine .inl ⟨_, _, hT5, ?_⟩ | refine ⟨_, _, hT5, ?_⟩ | refine .inl ⟨_, _, hS7 i hil htk, ?_⟩ | refine ⟨_, _, hS7 i hil htk, ?_⟩ | refine .inl ⟨_, _, hF14, ?_⟩ | refine ⟨_, _, hF14, ?_⟩ | refine .inl ⟨_, _, hF15, ?_⟩ | refine ⟨_, _, hF15, ?_⟩ | refine .inl ⟨_, _, hA, ?_⟩ | refine ⟨_, _, hA, ?_⟩ | refine .inl ⟨_, _, hA2, ?_⟩ | refine ⟨_, _, hA2, ?_⟩ | refine .inl ⟨_, _, hA3, ?_⟩ | refine ⟨_, _, hA3, ?_⟩ | refine .inl ⟨_, _, hA5, ?_⟩ | refine ⟨_, _, hA5, ?_⟩ | refine .inl ⟨_, _, hN23 n k hn5 hk5, ?_⟩ | refine ⟨_, _, hN23 n k hn5 hk5, ?_⟩ | refine .inl ⟨_, _, hB24, ?_⟩ | refine ⟨_, _, hB24, ?_⟩ | refine .inl ⟨_, _, hW27 j hj5, ?_⟩ | refine ⟨_, _, hW27 j hj5, ?_⟩ | refine .inl ⟨_, _, hW28 j hj5, ?_⟩ | refine ⟨_, _, hW28 j hj5, ?_⟩ | (refine st ?_; try simp only [map_ren_encT, nilP, encSpec, madeP, ren_madeV, sealed_madeV, noOb_madeV, dec_self, beq_self_eq_true, ByteArray.size_append]) | simp only [map_ren_encT, nilP, encSpec, madeP, ren_madeV, sealed_madeV, noOb_madeV, dec_self, beq_self_eq_true, ByteArray.size_append])
    all_goals
    refine Tri.cond rfl (fun h97 => ?_) (fun h97 => ?_)
    ·try (cases h97; done)
     all_goals (try simp only [CQ] at h97)
     all_goals
     refine rZ [1, 4, 12, 17, 19, 20, 21, 22, 23, 24, 25] (fun P S K => K ⟨[(1, S.get 1), (4, S.get 4), (12, S.get 12), (17, S.get 17), (19, S.get 19), (20, S.get 20), (21, S.get 21), (22, S.get 22), (23, S.get 23), (24, S.get 24), (25, (S.get 24))], S.hp, S.nx, S.gh⟩) fun K hK => ?_
     repeat' (first | (refine hK _ ?_; clear hK K) | ((first | refine xG_intro (fun hg => ?_) (fun hg => ?_) | refine fun (hg : (_ : Prop)) => ?_) <;> ((try simp only [BQ] at hg); try (exfalso; omega))) | refine And.intro ?_ ?_ | exact cl | exact one_encT _ | refine one_take ?_ _ | refine one_drop ?_ _ | (refine st ?_; try simp only [map_ren_encT, nilP, encSpec, madeP, ren_madeV, sealed_madeV, noOb_madeV, dec_self, beq_self_eq_true, ByteArray.size_append]) | simp only [map_ren_encT, nilP, encSpec, madeP, ren_madeV, sealed_madeV, noOb_madeV, dec_self, beq_self_eq_true, ByteArray.size_append])
     all_goals
     first | (refine ⟨⟨n, hn5⟩, [1, 3], ?_⟩; exact leqW42) | (refine ⟨⟨k0, by omega⟩, [1, 3], ?_⟩; exact leqW42)
    ·try (cases h97; done)
     all_goals (try simp only [CQ] at h97)
     all_goals
     refine Tri.skip ?_
     first | (refine ⟨⟨n, hn5⟩, [1, 3], ?_⟩; exact leqW42) | (refine ⟨⟨k0, by omega⟩, [1, 3], ?_⟩; exact leqW42)
   ·rintro ⟨k, hk5⟩
    refine sZ [4, 12, 17, 19, 20, 21, 22, 23, 24, 25, 26] (fun P S K => XvFnIV P (M S.hp S.nx) (.fn 34 []) [(S.get 1), (.atom (.int .i64 5))] (fun r1 e1 => XvBinOV P .add 9 (.tmp 100) (.atom (.string { data := #[120, 32] })) r1 (fun r2 _ => XvBinOV P .add 9 (.const (.string { data := #[46] })) r2 (.atom (.string { data := #[46] })) (fun r3 _ => K ⟨[(4, S.get 4), (12, S.get 12), (17, S.get 17), (19, S.get 19), (20, S.get 20), (21, S.get 21), (22, S.get 22), (23, S.get 23), (24, S.get 24), (25, S.get 25), (26, r3)], (Eff.hp e1 S.nx S.hp), (S.nx + e1.add.length), S.gh⟩)))) fun K hK => ?_
    repeat' (first | (refine hK _ ?_; clear hK K) | ((first | refine xG_intro (fun hg => ?_) (fun hg => ?_) | refine fun (hg : (_ : Prop)) => ?_) <;> ((try simp only [BQ] at hg); try (exfalso; omega))) | refine And.intro ?_ ?_ | exact cl | exact one_encT _ | refine one_take ?_ _ | refine one_drop ?_ _ | refine .inl ⟨_, _, hown, ?_⟩ | refine ⟨_, _, hown, ?_⟩ | refine .inl ⟨_, _, hT0, ?_⟩ | refine ⟨_, _, hT0, ?_⟩ | refine .inl ⟨_, _, hT5, ?_⟩ | refine ⟨_, _, hT5, ?_⟩ | refine .inl ⟨_, _, hS7 i hil htk, ?_⟩ | refine ⟨_, _, hS7 i hil htk, ?_⟩ | refine .inl ⟨_, _, hF14, ?_⟩ | refine ⟨_, _, hF14, ?_⟩ | refine .inl ⟨_, _, hF15, ?_⟩ | refine ⟨_, _, hF15, ?_⟩ | refine .inl ⟨_, _, hA, ?_⟩ | refine ⟨_, _, hA, ?_⟩ | refine .inl ⟨_, _, hA2, ?_⟩ | refine ⟨_, _, hA2, ?_⟩ | refine .inl ⟨_, _, hA3, ?_⟩ | refine ⟨_, _, hA3, ?_⟩ | refine .inl ⟨_, _, hA5, ?_⟩ | refine ⟨_, _, hA5, ?_⟩ | refine .inl ⟨_, _, hN23 n k hn5 hk5, ?_⟩ | refine ⟨_, _, hN23 n k hn5 hk5, ?_⟩ | refine .inl ⟨_, _, hB24, ?_⟩ | refine ⟨_, _, hB24, ?_⟩ | refine .inl ⟨_, _, hW27 j hj5, ?_⟩ | refine ⟨_, _, hW27 j hj5, ?_⟩ | refine .inl ⟨_, _, hW28 j hj5, ?_⟩ | refine ⟨_, _, hW28 j hj5, ?_⟩ | (refine st ?_; try simp only [map_ren_encT, nilP, encSpec, madeP, ren_madeV, sealed_madeV, noOb_madeV, dec_self, beq_self_eq_true, ByteArray.size_append]) | simp only [map_ren_encT, nilP, encSpec, madeP, ren_madeV, sealed_madeV, noOb_madeV, dec_self, beq_self_eq_true, ByteArray.size_append])
    all_goals try simp (disch := omega) only [wrap_id, wrap8_id]
    all_goals
    have hnuk := numB_size k
    have z7 : (wB (dgF 4 n)).size ≤ 5 := hnum
    have z8 : (wB (dgF 4 k)).size ≤ 5 := hnuk
    refine sD 21 [4, 12, 17, 19, 20, 21, 22, 24, 25, 27, 28] (fun P GD S K => XvLoad P 33 (M S.hp S.nx) (S.get 23) (fun r0 e0 => XvFnV P (M S.hp S.nx) (.fn 36 []) [(S.get 24)] (fun r3 e3 => XvBinOV P .add 9 (.tmp 107) (S.get 26) r3 (fun r4 e4 => XvBinOV P .add 9 (.const (.string { data := #[45] })) r4 (.atom (.string { data := #[45] })) (fun r5 e5 => XvBinOV P .add 9 (.tmp 110) r5 (S.get 12) (fun r7 e7 => XvFnV P (M (Eff.hp e3 S.nx S.hp) (S.nx + e3.add.length)) (.fn 36 []) [(S.get 25)] (fun r10 e10 => XvBinOV P .add 9 (.tmp 114) (S.get 26) r10 (fun r11 e11 => XvBinOV P .add 9 (.const (.string { data := #[45] })) r11 (.atom (.string { data := #[45] })) (fun r12 e12 => XvBinOV P .add 9 (.tmp 117) r12 (S.get 12) (fun r14 e14 => XvFnV P (M (Eff.hp e10 (S.nx + e3.add.length) (Eff.hp e3 S.nx S.hp)) ((S.nx + e3.add.length) + e10.add.length)) (.fn 20 []) [r0, r7, r14] (fun r15 e15 => XvExtract r15 0 (fun r17 e17 => XvExtract r15 1 (fun r18 e18 => (trOk S.nx GD [⟨S.nx, 0, e0.rd, [], []⟩, ⟨S.nx, 0, [], [], []⟩, ⟨S.nx, 0, [], [], []⟩, (Eff.tr e3 S.nx), ⟨(S.nx + e3.add.length), 0, e4.rd, [], []⟩, ⟨(S.nx + e3.add.length), 0, e5.rd, [], []⟩, ⟨(S.nx + e3.add.length), 0, [], [], []⟩, ⟨(S.nx + e3.add.length), 0, e7.rd, [], []⟩, ⟨(S.nx + e3.add.length), 0, [], [], []⟩, ⟨(S.nx + e3.add.length), 0, [], [], []⟩, (Eff.tr e10 (S.nx + e3.add.length)), ⟨((S.nx + e3.add.length) + e10.add.length), 0, e11.rd, [], []⟩, ⟨((S.nx + e3.add.length) + e10.add.length), 0, e12.rd, [], []⟩, ⟨((S.nx + e3.add.length) + e10.add.length), 0, [], [], []⟩, ⟨((S.nx + e3.add.length) + e10.add.length), 0, e14.rd, [], []⟩, (Eff.tr e15 ((S.nx + e3.add.length) + e10.add.length)), ⟨(((S.nx + e3.add.length) + e10.add.length) + e15.add.length), 0, [], [], []⟩, ⟨(((S.nx + e3.add.length) + e10.add.length) + e15.add.length), 0, e17.rd, [], []⟩, ⟨(((S.nx + e3.add.length) + e10.add.length) + e15.add.length), 0, e18.rd, [], []⟩, ⟨(((S.nx + e3.add.length) + e10.add.length) + e15.add.length), 0, [], [], []⟩, ⟨(((S.nx + e3.add.length) + e10.add.length) + e15.add.length), 0, [], [], []⟩] = true ∧ K ⟨[(4, S.get 4), (12, S.get 12), (17, S.get 17), (19, S.get 19), (20, S.get 20), (21, S.get 21), (22, S.get 22), (24, S.get 24), (25, S.get 25), (27, r17), (28, r18)], (Eff.hp e15 ((S.nx + e3.add.length) + e10.add.length) (Eff.hp e10 (S.nx + e3.add.length) (Eff.hp e3 S.nx S.hp))), (((S.nx + e3.add.length) + e10.add.length) + e15.add.length), S.gh⟩)))))))))))))) fun K hK => ?_
    repeat' (first | (refine hK _ ?_; clear hK K) | (refine (?_ : trOk _ _ _ = true); kernel_rfl) | ((first | refine xG_intro (fun hg => ?_) (fun hg => ?_) | refine fun (hg : (_ : Prop)) => ?_) <;> ((try simp only [BQ] at hg); try (exfalso; omega))) | refine And.intro ?_ ?_ | exact cl | exact one_encT _ | refine one_take ?_ _ | refine one_drop ?_ _ | refine .inl ⟨_, _, hown, ?_⟩ | refine ⟨_, _, hown, ?_⟩ | refine .inl ⟨_, _, hT0, ?_⟩ | refine ⟨_, _, hT0, ?_⟩ | refine .inl ⟨_, _, hT5, ?_⟩ | refine ⟨_, _, hT5, ?_⟩ | refine .inl ⟨_, _, hS7 i hil htk, ?_⟩ | refine ⟨_, _, hS7 i hil htk, ?_⟩ | refine .inl ⟨_, _, hF14, ?_⟩ | refine ⟨_, _, hF14, ?_⟩ | refine .inl ⟨_, _, hF15, ?_⟩ | refine ⟨_, _, hF15, ?_⟩ | refine .inl ⟨_, _, hA, ?_⟩ | refine ⟨_, _, hA, ?_⟩ | refine .inl ⟨_, _, hA2, ?_⟩ | refine ⟨_, _, hA2, ?_⟩ | refine .inl ⟨_, _, hA3, ?_⟩ | refine ⟨_, _, hA3, ?_⟩ | refine .inl ⟨_, _, hA5, ?_⟩ | refine ⟨_, _, hA5, ?_⟩ | refine .inl ⟨_, _, text_pure 4 n (by decide) hn5, ?_⟩ | refine ⟨_, _, text_pure 4 n (by decide) hn5, ?_⟩ | refine .inl ⟨_, _, text_pure 4 k (by decide) hk5, ?_⟩ | refine ⟨_, _, text_pure 4 k (by decide) hk5, ?_⟩ | refine .inl ⟨_, _, hN23 n k hn5 hk5, ?_⟩ | refine ⟨_, _, hN23 n k hn5 hk5, ?_⟩ | refine .inl ⟨_, _, hB24, ?_⟩ | refine ⟨_, _, hB24, ?_⟩ | refine .inl ⟨_, _, hW27 j hj5, ?_⟩ | refine ⟨_, _, hW27 j hj5, ?_⟩ | refine .inl ⟨_, _, hW28 j hj5, ?_⟩ | refine ⟨_, _, hW28 j hj5, ?_⟩ | (refine st ?_; try simp only [map_ren_encT, nilP, encSpec, madeP, ren_madeV, sealed_madeV, noOb_madeV, dec_self, beq_self_eq_true, ByteArray.size_append]) | simp only [map_ren_encT, nilP, encSpec, madeP, ren_madeV, sealed_madeV, noOb_madeV, dec_self, beq_self_eq_true, ByteArray.size_append])
    all_goals try simp (disch := omega) only [wrap_id, wrap8_id]
    all_goals
    refine sZ [4, 12, 17, 19, 20, 21, 22, 24, 25, 27, 28, 29, 30] (fun P S K => XvLoad P 33 (M S.hp S.nx) (S.get 17) (fun r0 _ => XvBinOV P .add 9 (.const (.string { data := #[32, 111, 100, 101] })) (S.get 12) (.atom (.string { data := #[32, 111, 100, 101] })) (fun r3 _ => XvFnIV P (M S.hp S.nx) (.fn 20 []) [r0, (S.get 12), r3] (fun r4 e4 => XvExtract r4 0 (fun r6 _ => XvExtract r4 1 (fun r7 _ => K ⟨[(4, S.get 4), (12, S.get 12), (17, S.get 17), (19, S.get 19), (20, S.get 20), (21, S.get 21), (22, S.get 22), (24, S.get 24), (25, S.get 25), (27, S.get 27), (28, S.get 28), (29, r6), (30, r7)], (Eff.hp e4 S.nx S.hp), (S.nx + e4.add.length), S.gh⟩)))))) fun K hK => ?_
    repeat' (first | (refine hK _ ?_; clear hK K) | ((first | refine xG_intro (fun hg => ?_) (fun hg => ?_) | refine fun (hg : (_ : Prop)) => ?_) <;> ((try simp only [BQ] at hg); try (exfalso; omega))) | refine And.intro ?_ ?_ | exact cl | exact one_encT _ | refine one_take ?_ _ | refine one_drop ?_ _ | refine .inl ⟨_, _, hown, ?_⟩ | refine ⟨_, _, hown, ?_⟩ | refine .inl ⟨_, _, hT0, ?_⟩ | refine ⟨_, _, hT0, ?_⟩ | refine .inl ⟨_, _, hT5, ?_⟩ | refine ⟨_, _, hT5, ?_⟩ | refine .inl ⟨_, _, hS7 i hil htk, ?_⟩ | refine ⟨_, _, hS7 i hil htk, ?_⟩ | refine .inl ⟨_, _, hF14, ?_⟩ | refine ⟨_, _, hF14, ?_⟩ | refine .inl ⟨_, _, hF15, ?_⟩ | refine ⟨_, _, hF15, ?_⟩ | refine .inl ⟨_, _, hA, ?_⟩ | refine ⟨_, _, hA, ?_⟩ | refine .inl ⟨_, _, hA2, ?_⟩ | refine ⟨_, _, hA2, ?_⟩ | refine .inl ⟨_, _, hA3, ?_⟩ | refine ⟨_, _, hA3, ?_⟩ | refine .inl ⟨_, _, hA5, ?_⟩ | refine ⟨_, _, hA5, ?_⟩ | refine .inl ⟨_, _, hN23 n k hn5 hk5, ?_⟩ | refine ⟨_, _, hN23 n k hn5 hk5, ?_⟩ | refine .inl ⟨_, _, hB24, ?_⟩ | refine ⟨_, _, hB24, ?_⟩ | refine .inl ⟨_, _, hW27 j hj5, ?_⟩ | refine ⟨_, _, hW27 j hj5, ?_⟩ | refine .inl ⟨_, _, hW28 j hj5, ?_⟩ | refine ⟨_, _, hW28 j hj5, ?_⟩ | (refine st ?_; try simp only [map_ren_encT, nilP, encSpec, madeP, ren_madeV, sealed_madeV, noOb_madeV, dec_self, beq_self_eq_true, ByteArray.size_append]) | simp only [map_ren_encT, nilP, encSpec, madeP, ren_madeV, sealed_madeV, noOb_madeV, dec_self, beq_self_eq_true, ByteArray.size_append])
    all_goals try simp (disch := omega) only [wrap_id, wrap8_id]
    all_goals
    refine sZ [12, 17, 19, 20, 21, 22, 24, 25, 27, 28, 29, 30, 31] (fun P S K => XvBuildS P 25 5 S.nx [(0, (.atom (.string { data := #[110, 101, 119] }))), (1, (.atom (.string { data := #[116, 104, 101] }))), (2, (.atom (.string { data := #[97] }))), (3, (.atom (.string { data := #[75, 105, 110, 103] }))), (4, (.atom (.string { data := #[120, 45] })))] (fun r0 e0 => XvFnIV P (M (Eff.hp e0 S.nx S.hp) (S.nx + e0.add.length)) (.fn 12 []) [(S.get 4), (.atom (.int .i64 5))] (fun r2 e2 => XvIndexAddr P 25 r0 r2 (fun r3 _ => XvLoad P 9 (M (Eff.hp e2 (S.nx + e0.add.length) (Eff.hp e0 S.nx S.hp)) ((S.nx + e0.add.length) + e2.add.length)) r3 (fun r4 _ => K ⟨[(12, S.get 12), (17, S.get 17), (19, S.get 19), (20, S.get 20), (21, S.get 21), (22, S.get 22), (24, S.get 24), (25, S.get 25), (27, S.get 27), (28, S.get 28), (29, S.get 29), (30, S.get 30), (31, r4)], (Eff.hp e2 (S.nx + e0.add.length) (Eff.hp e0 S.nx S.hp)), ((S.nx + e0.add.length) + e2.add.length), S.gh⟩))))) fun K hK => ?_
    repeat' (first | (refine hK _ ?_; clear hK K) | ((first | refine xG_intro (fun hg => ?_) (fun hg => ?_) | refine fun (hg : (_ : Prop)) => ?_) <;> ((try simp only [BQ] at hg); try (exfalso; omega))) | refine And.intro ?_ ?_ | exact cl | exact one_encT _ | refine one_take ?_ _ | refine one_drop ?_ _ | refine .inl ⟨_, _, hown, ?_⟩ | refine ⟨_, _, hown, ?_⟩ | refine .inl ⟨_, _, hT0, ?_⟩ | refine ⟨_, _, hT0, ?_⟩ | refine .inl ⟨_, _, hT5, ?_⟩ | refine ⟨_, _, hT5, ?_⟩ | refine .inl ⟨_, _, hS7 i hil htk, ?_⟩ | refine ⟨_, _, hS7 i hil htk, ?_⟩ | refine .inl ⟨_, _, hF14, ?_⟩ | refine ⟨_, _, hF14, ?_⟩ | refine .inl ⟨_, _, hF15, ?_⟩ | refine ⟨_, _, hF15, ?_⟩ | refine .inl ⟨_, _, hA, ?_⟩ | refine ⟨_, _, hA, ?_⟩ | refine .inl ⟨_, _, hA2, ?_⟩ | refine ⟨_, _, hA2, ?_⟩ | refine .inl ⟨_, _, hA3, ?_⟩ | refine ⟨_, _, hA3, ?_⟩ | refine .inl ⟨_, _, hA5, ?_⟩ | refine ⟨_, _, hA5, ?_⟩ | refine .inl ⟨_, _, hN23 n k hn5 hk5, ?_⟩ | refine ⟨_, _, hN23 n k hn5 hk5, ?_⟩ | refine .inl ⟨_, _, hB24, ?_⟩ | refine ⟨_, _, hB24, ?_⟩ | refine .inl ⟨_, _, hW27 j hj5, ?_⟩ | refine ⟨_, _, hW27 j hj5, ?_⟩ | refine .inl ⟨_, _, hW28 j hj5, ?_⟩ | refine ⟨_, _, hW28 j hj5, ?_⟩ | (refine st ?_; try simp only [map_ren_encT, nilP, encSpec, madeP, ren_madeV, sealed_madeV, noOb_madeV, dec_self, beq_self_eq_true, ByteArray.size_append, hmg]) | simp only [map_ren_encT, nilP, encSpec, madeP, ren_madeV, sealed_madeV, noOb_madeV, dec_self, beq_self_eq_true, ByteArray.size_append, hmg])
    all_goals
    refine sZ [12, 17, 19, 20, 21, 22, 24, 25, 27, 28, 29, 30, 31] (fun P S K => XvFieldAddr P 33 0 (S.get 17) (fun r0 _ => XvStore P 4 (M S.hp S.nx) r0 (.atom (.bool true)) (fun r1 e1 => K ⟨[(12, S.get 12), (17, S.get 17), (19, S.get 19), (20, S.get 20), (21, S.get 21), (22, S.get 22), (24, S.get 24), (25, S.get 25), (27, S.get 27), (28, S.get 28), (29, S.get 29), (30, S.get 30), (31, S.get 31)], (Eff.hp e1 S.nx S.hp), (S.nx + e1.add.length), S.gh⟩))) fun K hK => ?_
    repeat' (first | (refine hK _ ?_; clear hK K) | ((first | refine xG_intro (fun hg => ?_) (fun hg => ?_) | refine fun (hg : (_ : Prop)) => ?_) <;> ((try simp only [BQ] at hg); try (exfalso; omega))) | refine And.intro ?_ ?_ | exact cl | exact one_encT _ | refine one_take ?_ _ | refine one_drop ?_ _ | (refine st ?_; try simp only [map_ren_encT, nilP, encSpec, madeP, ren_madeV, sealed_madeV, noOb_madeV, dec_self, beq_self_eq_true, ByteArray.size_append]) | simp only [map_ren_encT, nilP, encSpec, madeP, ren_madeV, sealed_madeV, noOb_madeV, dec_self, beq_self_eq_true, ByteArray.size_append])
    all_goals
    refine sZ [12, 17, 19, 20, 21, 22, 24, 25, 27, 28, 29, 30, 31, 32, 33] (fun P S K => XvLoad P 33 (M S.hp S.nx) (S.get 17) (fun r0 _ => XvBinOV P .add 9 (.const (.string { data := #[97, 114, 107] })) (S.get 31) (.atom (.string { data := #[97, 114, 107] })) (fun r3 _ => XvFnIV P (M S.hp S.nx) (.fn 20 []) [r0, (S.get 31), r3] (fun r4 e4 => XvExtract r4 0 (fun r6 _ => XvExtract r4 1 (fun r7 _ => K ⟨[(12, S.get 12), (17, S.get 17), (19, S.get 19), (20, S.get 20), (21, S.get 21), (22, S.get 22), (24, S.get 24), (25, S.get 25), (27, S.get 27), (28, S.get 28), (29, S.get 29), (30, S.get 30), (31, S.get 31), (32, r6), (33, r7)], (Eff.hp e4 S.nx S.hp), (S.nx + e4.add.length), S.gh⟩)))))) fun K hK => ?_
    repeat' (first | (refine hK _ ?_; clear hK K) | ((first | refine xG_intro (fun hg => ?_) (fun hg => ?_) | refine fun (hg : (_ : Prop)) => ?_) <;> ((try simp only [BQ] at hg); try (exfalso; omega))) | refine And.intro ?_ ?_ | exact cl | exact one_encT _ | refine one_take ?_ _ | refine one_drop ?_ _ | refine .inl ⟨_, _, hown, ?_⟩ | refine ⟨_, _, hown, ?_⟩ | refine .inl ⟨_, _, hT0, ?_⟩ | refine ⟨_, _, hT0, ?_⟩ | refine .inl ⟨_, _, hT5, ?_⟩ | refine ⟨_, _, hT5, ?_⟩ | refine .inl ⟨_, _, hS7 i hil htk, ?_⟩ | refine ⟨_, _, hS7 i hil htk, ?_⟩ | refine .inl ⟨_, _, hF14, ?_⟩ | refine ⟨_, _, hF14, ?_⟩ | refine .inl ⟨_, _, hF15, ?_⟩ | refine ⟨_, _, hF15, ?_⟩ | refine .inl ⟨_, _, hA, ?_⟩ | refine ⟨_, _, hA, ?_⟩ | refine .inl ⟨_, _, hA2, ?_⟩ | refine ⟨_, _, hA2, ?_⟩ | refine .inl ⟨_, _, hA3, ?_⟩ | refine ⟨_, _, hA3, ?_⟩ | refine .inl ⟨_, _, hA5, ?_⟩ | refine ⟨_, _, hA5, ?_⟩ | refine .inl ⟨_, _, hN23 n k hn5 hk5, ?_⟩ | refine ⟨_, _, hN23 n k hn5 hk5, ?_⟩ | refine .inl ⟨_, _, hB24, ?_⟩ | refine ⟨_, _, hB24, ?_⟩ | refine .inl ⟨_, _, hW27 j hj5, ?_⟩ | refine ⟨_, _, hW27 j hj5, ?_⟩ | refine .inl ⟨_, _, hW28 j hj5, ?_⟩ | refine ⟨_, _, hW28 j hj5, ?_⟩ | (refine st ?_; try simp only [map_ren_encT, nilP, encSpec, madeP, ren_madeV, sealed_madeV, noOb_madeV, dec_self, beq_self_eq_true, ByteArray.size_append]) | simp only [map_ren_encT, nilP, encSpec, madeP, ren_madeV, sealed_madeV, noOb_madeV, dec_self, beq_self_eq_true, ByteArray.size_append])
    all_goals try simp (disch := omega) only [wrap_id, wrap8_id]
    all_goals
    refine sZ [19, 20, 21, 22, 24, 25, 27, 28, 29, 30, 32, 33, 34, 35] (fun P S K => XvLoad P 33 (M S.hp S.nx) (S.get 17) (fun r0 _ => XvBinOV P .add 9 (.const (.string { data := #[32] })) (S.get 31) (.atom (.string { data := #[32] })) (fun r2 _ => XvBinOV P .add 9 (.tmp 148) r2 (S.get 12) (fun r4 _ => XvBinOV P .add 9 (.const (.string { data := #[97, 114, 107] })) (S.get 31) (.atom (.string { data := #[97, 114, 107] })) (fun r6 _ => XvFnIV P (M S.hp S.nx) (.fn 20 []) [r0, r4, r6] (fun r7 e7 => XvExtract r7 0 (fun r9 _ => XvExtract r7 1 (fun r10 _ => K ⟨[(19, S.get 19), (20, S.get 20), (21, S.get 21), (22, S.get 22), (24, S.get 24), (25, S.get 25), (27, S.get 27), (28, S.get 28), (29, S.get 29), (30, S.get 30), (32, S.get 32), (33, S.get 33), (34, r9), (35, r10)], (Eff.hp e7 S.nx S.hp), (S.nx + e7.add.length), S.gh⟩)))))))) fun K hK => ?_
    repeat' (first | (refine hK _ ?_; clear hK K) | ((first | refine xG_intro (fun hg => ?_) (fun hg => ?_) | refine fun (hg : (_ : Prop)) => ?_) <;> ((try simp only [BQ] at hg); try (exfalso; omega))) | refine And.intro ?_ ?_ | exact cl | exact one_encT _ | refine one_take ?_ _ | refine one_drop ?_ _ | refine .inl ⟨_, _, hown, ?_⟩ | refine ⟨_, _, hown, ?_⟩ | refine .inl ⟨_, _, hT0, ?_⟩ | refine ⟨_, _, hT0, ?_⟩ | refine .inl ⟨_, _, hT5, ?_⟩ | refine ⟨_, _, hT5, ?_⟩ | refine .inl ⟨_, _, hS7 i hil htk, ?_⟩ | refine ⟨_, _, hS7 i hil htk, ?_⟩ | refine .inl ⟨_, _, hF14, ?_⟩ | refine ⟨_, _, hF14, ?_⟩ | refine .inl ⟨_, _, hF15, ?_⟩ | refine ⟨_, _, hF15, ?_⟩ | refine .inl ⟨_, _, hA, ?_⟩ | refine ⟨_, _, hA, ?_⟩ | refine .inl ⟨_, _, hA2, ?_⟩ | refine ⟨_, _, hA2, ?_⟩ | refine .inl ⟨_, _, hA3, ?_⟩ | refine ⟨_, _, hA3, ?_⟩ | refine .inl ⟨_, _, hA5, ?_⟩ | refine ⟨_, _, hA5, ?_⟩ | refine .inl ⟨_, _, hN23 n k hn5 hk5, ?_⟩ | refine ⟨_, _, hN23 n k hn5 hk5, ?_⟩ | refine .inl ⟨_, _, hB24, ?_⟩ | refine ⟨_, _, hB24, ?_⟩ | refine .inl ⟨_, _, hW27 j hj5, ?_⟩ | refine ⟨_, _, hW27 j hj5, ?_⟩ | refine .inl ⟨_, _, hW28 j hj5, ?_⟩ | refine ⟨_, _, hW28 j hj5, ?_⟩ | (refine st ?_; try simp only [map_ren_encT, nilP, encSpec, madeP, ren_madeV, sealed_madeV, noOb_madeV, dec_self, beq_self_eq_true, ByteArray.size_append]) | simp only [map_ren_encT, nilP, encSpec, madeP, ren_madeV, sealed_madeV, noOb_madeV, dec_self, beq_self_eq_true, ByteArray.size_append])
    all_goals try simp (disch := omega) only [wrap_id, wrap8_id]
    all_goals
    refine Tri.seq ?_
    refine sZ [19, 21, 24, 25, 27, 29, 32, 34, 176] (fun P S K => XvBinOV P .neq 30 (.const (.int .i64 0)) (S.get 20) (.atom (.int .i64 0)) (fun r1 _ => Xgq r1 false (fun k => k (S.get 22)) (fun g3 r3 => Xgq g3 false (fun k => XvBinOV P .neq 30 (.const (.int .i64 0)) r3 (.atom (.int .i64 0)) (fun r4 _ => k r4)) (fun g4 r4 => XvPick g4 (.atom (.bool true)) r4 (fun r5 _ => Xgq r5 false (fun k => k (S.get 28)) (fun g7 r7 => Xgq g7 false (fun k => XvBinOV P .neq 30 (.const (.int .i64 0)) r7 (.atom (.int .i64 0)) (fun r8 _ => k r8)) (fun g8 r8 => XvPick g8 (.atom (.bool true)) r8 (fun r9 _ => Xgq r9 false (fun k => k (S.get 30)) (fun g11 r11 => Xgq g11 false (fun k => XvBinOV P .neq 30 (.const (.int .i64 0)) r11 (.atom (.int .i64 0)) (fun r12 _ => k r12)) (fun g12 r12 => XvPick g12 (.atom (.bool true)) r12 (fun r13 _ => Xgq r13 false (fun k => k (S.get 33)) (fun g15 r15 => Xgq g15 false (fun k => XvBinOV P .neq 30 (.const (.int .i64 0)) r15 (.atom (.int .i64 0)) (fun r16 _ => k r16)) (fun g16 r16 => XvPick g16 (.atom (.bool true)) r16 (fun r17 _ => Xgq r17 false (fun k => k (S.get 35)) (fun g19 r19 => Xgq g19 false (fun k => XvBinOV P .neq 30 (.const (.int .i64 0)) r19 (.atom (.int .i64 0)) (fun r20 _ => k r20)) (fun g20 r20 => XvPick g20 (.atom (.bool true)) r20 (fun r21 _ => K ⟨[(19, S.get 19), (21, S.get 21), (24, S.get 24), (25, S.get 25), (27, S.get 27), (29, S.get 29), (32, S.get 32), (34, S.get 34), (176, r21)], S.hp, S.nx, S.gh⟩))))))))))))))))) fun K hK => ?_
    repeat' (first | (refine hK _ ?_; clear hK K) | ((first | refine xG_intro (fun hg => ?_) (fun hg => ?_) | refine fun (hg : (_ : Prop)) => ?_) <;> ((try simp only [BQ] at hg); try (exfalso; omega))) | refine And.intro ?_ ?_ | exact cl | exact one_encT _ | refine one_take ?_ _ | refine one_drop ?_ _ | (refine st ?_; try simp only [map_ren_encT, nilP, encSpec, madeP, ren_madeV, sealed_madeV, noOb_madeV, dec_self, beq_self_eq_true, ByteArray.size_append]) | simp only [map_ren_encT, nilP, encSpec, madeP, ren_madeV, sealed_madeV, noOb_madeV, dec_self, beq_self_eq_true, ByteArray.size_append])
    all_goals
    refine Tri.cond rfl (fun h176 => ?_) (fun h176 => ?_)
    ·try (cases h176; done)
     all_goals (try simp only [CQ] at h176)
     all_goals
     refine sZ [10] (fun P S K => K ⟨[(10, (.atom (.bool false)))], S.hp, S.nx, S.gh⟩) fun K hK => ?_
     repeat' (first | (refine hK _ ?_; clear hK K) | ((first | refine xG_intro (fun hg => ?_) (fun hg => ?_) | refine fun (hg : (_ : Prop)) => ?_) <;> ((try simp only [BQ] at hg); try (exfalso; omega))) | refine And.intro ?_ ?_ | exact cl | exact one_encT _ | refine one_take ?_ _ | refine one_drop ?_ _ | (refine st ?_; try simp only [map_ren_encT, nilP, encSpec, madeP, ren_madeV, sealed_madeV, noOb_madeV, dec_self, beq_self_eq_true, ByteArray.size_append]) | simp only [map_ren_encT, nilP, encSpec, madeP, ren_madeV, sealed_madeV, noOb_madeV, dec_self, beq_self_eq_true, ByteArray.size_append])
     all_goals
     refine Tri.ret ?_
     show ResOk _ _ _ _
     exact ResOk.val lsrW42 lpvW42
    ·try (cases h176; done)
     all_goals (try simp only [CQ] at h176)
     all_goals
     refine Tri.skip ?_
     refine sZ [10] (fun P S K => XvBinOV P .eql 3 (.const (.int .i64 0)) (S.get 19) (.atom (.int .i64 0)) (fun r1 _ => Xgq r1 true (fun k => k (S.get 21)) (fun g3 r3 => Xgq g3 true (fun k => XvBinOV P .neq 3 (.const (.int .i64 0)) r3 (.atom (.int .i64 0)) (fun r4 _ => k r4)) (fun g4 r4 => XvPick g4 r4 (.atom (.bool false)) (fun r5 _ => Xgq r5 true (fun k => k (S.get 27)) (fun g7 r7 => Xgq g7 true (fun k => k (S.get 24)) (fun g8 r8 => Xgq g8 true (fun k => k (S.get 25)) (fun g9 r9 => Xge g9 true (fun k => XvFnIV P (M S.hp S.nx) (.fn 37 []) [r8, r9] k) (fun g10 r10 e10 => Xgq g10 true (fun k => XvBinOV P .eql 3 (.tmp 187) r7 r10 (fun r11 _ => k r11)) (fun g11 r11 => XvPick g11 r11 (.atom (.bool false)) (fun r12 _ => Xgq r12 true (fun k => k (S.get 29)) (fun g14 r14 => Xgq g14 true (fun k => XvBinOV P .eql 3 (.const (.int .i64 (-1))) r14 (.atom (.int .i64 (-1))) (fun r15 _ => k r15)) (fun g15 r15 => XvPick g15 r15 (.atom (.bool false)) (fun r16 _ => Xgq r16 true (fun k => k (S.get 32)) (fun g18 r18 => Xgq g18 true (fun k => XvBinOV P .eql 3 (.const (.int .i64 (-1))) r18 (.atom (.int .i64 (-1))) (fun r19 _ => k r19)) (fun g19 r19 => XvPick g19 r19 (.atom (.bool false)) (fun r20 _ => Xgq r20 true (fun k => k (S.get 34)) (fun g22 r22 => Xgq g22 true (fun k => XvBinOV P .eql 3 (.const (.int .i64 (-1))) r22 (.atom (.int .i64 (-1))) (fun r23 _ => k r23)) (fun g23 r23 => XvPick g23 r23 (.atom (.bool false)) (fun r24 _ => Xge r24 true (fun k => XvFnIV P (M (Eff.hp e10 S.nx S.hp) (S.nx + e10.add.length)) (.fn 19 []) [] k) (fun g26 r26 e26 => XvPick g26 r26 (.atom (.bool false)) (fun r27 _ => K ⟨[(10, r27)], (Eff.hp e26 (S.nx + e10.add.length) (Eff.hp e10 S.nx S.hp)), ((S.nx + e10.add.length) + e26.add.length), S.gh⟩)))))))))))))))))))))) fun K hK => ?_
     repeat' (first | (refine hK _ ?_; clear hK K) | ((first | refine xG_intro (fun hg => ?_) (fun hg => ?_) | refine fun (hg : (_ : Prop)) => ?_) <;> ((try simp only [BQ] at hg); try (exfalso; omega))) | refine And.intro ?_ ?_ | exact cl | exact one_encT _ | refine one_take ?_ _ | refine one_drop ?_ _ | refine .inl ⟨_, _, hown, ?_⟩ | refine ⟨_, _, hown, ?_⟩ | refine .inl ⟨_, _, hT0, ?_⟩ | refine ⟨_, _, hT0, ?_⟩ | refine .inl ⟨_, _, hT5, ?_⟩ | refine ⟨_, _, hT5, ?_⟩ | refine .inl ⟨_, _, hS7 i hil htk, ?_⟩ | refine ⟨_, _, hS7 i hil htk, ?_⟩ | refine .inl ⟨_, _, hF14, ?_⟩ | refine ⟨_, _, hF14, ?_⟩ | refine .inl ⟨_, _, hF15, ?_⟩ | refine ⟨_, _, hF15, ?_⟩ | refine .inl ⟨_, _, hA, ?_⟩ | refine ⟨_, _, hA, ?_⟩ | refine .inl ⟨_, _, hA2, ?_⟩ | refine ⟨_, _, hA2, ?_⟩ | refine .inl ⟨_, _, hA3, ?_⟩ | refine ⟨_, _, hA3, ?_⟩ | refine .inl ⟨_, _, hA5, ?_⟩ | refine ⟨_, _, hA5, ?_⟩ | refine .inl ⟨_, _, hN23 n k hn5 hk5, ?_⟩ | refine ⟨_, _, hN23 n k hn5 hk5, ?_⟩ | refine .inl ⟨_, _, hB24, ?_⟩ | refine ⟨_, _, hB24, ?_⟩ | refine .inl ⟨_, _, hW27 j hj5, ?_⟩ | refine ⟨_, _, hW27 j hj5, ?_⟩ | refine .inl ⟨_, _, hW28 j hj5, ?_⟩ | refine ⟨_, _, hW28 j hj5, ?_⟩ | refine .inl ⟨_, _, value_pure n k, ?_⟩ | refine ⟨_, _, value_pure n k, ?_⟩ | refine .inl ⟨_, _, lives_pure, ?_⟩ | refine ⟨_, _, lives_pure, ?_⟩ | (refine st ?_; try simp only [map_ren_encT, nilP, encSpec, madeP, ren_madeV, sealed_madeV, noOb_madeV, dec_self, beq_self_eq_true, ByteArray.size_append]) | simp only [map_ren_encT, nilP, encSpec, madeP, ren_madeV, sealed_madeV, noOb_madeV, dec_self, beq_self_eq_true, ByteArray.size_append])
     all_goals
     refine Tri.ret ?_
     show ResOk _ _ _ _
     exact ResOk.val lsrW42 lpvW42
end Go.Proofs.YtfnkciboencifaaDoor
