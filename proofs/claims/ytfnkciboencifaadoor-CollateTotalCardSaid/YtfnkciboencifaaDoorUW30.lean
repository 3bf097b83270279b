/-
  Sort and Paths of package collate, walked.
-/
import Derived.Test.YtfnkciboencifaaDoorUW1
import Derived.Test.YtfnkciboencifaaDoorUW27
set_option linter.all false
namespace Go.Proofs.YtfnkciboencifaaDoor
open Go Go.RowKit
set_option linter.unusedSimpArgs false
set_option linter.unusedVariables false
set_option maxRecDepth 20000
set_option maxHeartbeats 400000
theorem leqW28 {p : Prop} (h : p := by (refine ⟨4, ?_, ?_, rfl, by simp, rfl, fun _ h _ => absurd h (Nat.not_lt_zero _)⟩ <;> (simp only [List.forall_mem_cons]; repeat' (first | refine And.intro ?_ ?_ | (intro p hp; exact absurd hp List.not_mem_nil) | rfl | exact sp (pure_spec _) | exact sp (pure_paths _) | exact sp (pure_rowsI _) | exact sp (pure_rows2 _) | exact (sealed_pure _ _ _ (pure_ints _)).trans (ren_ints _ _).symm | exact (sealed_pure _ _ _ (pure_strs _)).trans (ren_strs _ _).symm | exact sp (by assumption) | (intro o ho; cases ho; refine ⟨by decide, ?_⟩; first | (refine LeqS.row rfl ?_ ?_; (next => (first | rfl | (simp only [List.map_append, List.map_cons, List.map_nil, List.append_nil, List.nil_append, List.append_assoc, List.cons_append, encI, encS, ints, strs]; done) | (simp [encI, encS, ints, strs]; done))); (next => (first | rfl | exact pureL_encI _ | exact pureL_encS _ | exact pureL_ints _ | exact pureL_strs _ | (simp [pureL_append, pureL_encI, pureL_encS, pureL_ints, pureL_strs, pureL, PV.pure, pure_ints, pure_strs, pure_spec, pure_paths, pure_rowsI, pure_rows2]; done))); done) | refine ⟨_, rfl, rfl, ?_⟩) | (simp [St.born, St.known, retV, St.get, St.obj, lk, sealed, PV.ren, renL, rmap, AO.ren, ints, strs, encI, encS, map_sealed_encI, map_sealed_encS, map_sealed_ints, map_sealed_strs, map_ren_encI, map_ren_encS, map_ren_ints, map_ren_strs, renL_encI, renL_encS, renL_ints, renL_strs, ren_spec, ren_paths, ren_rowsI, ren_rows2] <;> omega))))) : p := h
theorem lsrW28 {p : Prop} (h : p := by (first | rfl | (simp [St.born, St.known, retV, St.get, St.obj, lk, sealed, PV.ren, renL, rmap, AO.ren, ints, strs, encI, encS, map_sealed_encI, map_sealed_encS, map_sealed_ints, map_sealed_strs, map_ren_encI, map_ren_encS, map_ren_ints, map_ren_strs, renL_encI, renL_encS, renL_ints, renL_strs, ren_spec, ren_paths, ren_rowsI, ren_rows2]; done))) : p := h
theorem lpvW28 {p : Prop} (h : p := by (first | rfl | (simp [pure_ints, pure_strs, PV.pure, pureL, pureL_encI, pureL_encS, pureL_ints, pureL_strs, pure_spec, pure_paths, pure_rowsI, pure_rows2]; done))) : p := h
noncomputable def examE (s : SpecD) (l : List ByteArray) : Int := Elder.examS (toE s) l
theorem cExam_pure (s : SpecD) (l : List ByteArray) (hs : Tame s) (hl : ∀ x, x ∈ l → x.size ≤ 9223372036854775807) : Pure Tryd.prog 45 [encSpec s, strs l] (encI (examE s l)) [] := by
  refine ⟨enters_of Tryd.func45 (by kernel_rfl) rfl, fun D μ F w vs hvs hargs hF => ?_⟩
  have h0 := hargs 0 (by simp)
  have h1 := hargs 1 (by simp)
  have e : vs = [vs.getD 0 undef, vs.getD 1 undef].toArray := args_eq hvs (fun i hi => by
    match i, hi with
    | 0, _ => rfl
    | 1, _ => rfl)
  rw [e]
  refine (Elder.examine_any _ _ _ l w (specAt_rep h0 hs) (strsAt_rep h1 hl)).mono fun e w' he => ?_
  obtain ⟨rfl, hb⟩ := he
  exact ⟨_, rfl, hb, ResIs.atom _⟩
theorem cKeyIn_pure (s : SpecD) (t : ByteArray) (hs : Tame s) (hv : validE s = 0) (ht : t.size ≤ 4096) : Pure Tryd.prog 46 [encSpec s, encS t] (ints (keyOf s t)) [] := by
  refine ⟨enters_of Tryd.func46 (by kernel_rfl) rfl, fun D μ F w vs hvs hargs hF => ?_⟩
  have h0 := hargs 0 (by simp)
  have h1 := (hargs 1 (by simp)).atomEq
  have e : vs = [vs.getD 0 undef, .string t].toArray := args_eq hvs (fun i hi => by
    match i, hi with
    | 0, _ => rfl
    | 1, _ => exact h1)
  rw [e]
  refine (Elder.key_any _ _ t w (specAt_rep h0 hs) (Elder.valid_order (by rw [validD_eq]; exact hv)) ht).mono fun e w' he => ?_
  obtain ⟨u, rfl, hu, hb⟩ := he
  rw [keyS_eq (valid_once hv)] at hu
  exact ⟨_, rfl, hb, fun _ => none, fun b => w.heap.size ≤ b ∧ b < w'.heap.size, ownI_rep hu, fun i o hi => by simp at hi, fun i b hi => by simp at hi, fun i j b hi => by simp at hi, fun b hb' => ⟨.inr hb'.1, hb'.2⟩⟩
theorem examE_long {s : SpecD} {l : List ByteArray} (h : validE s = 0) (hx : ∃ x, x ∈ l ∧ 4096 < x.size) : examE s l = 4 := by
  obtain ⟨x, h1, h2⟩ := hx
  unfold examE Elder.examS
  rw [validD_eq, if_neg (by rw [h]; decide), if_pos (List.any_eq_true.2 ⟨x, h1, decide_eq_true h2⟩)]
theorem examE_ok {s : SpecD} {l : List ByteArray} (h : validE s = 0) (hx : ¬ ∃ x, x ∈ l ∧ 4096 < x.size) : examE s l = 0 := by
  unfold examE Elder.examS
  rw [validD_eq, if_neg (by rw [h]; decide), if_neg]
  intro hh
  obtain ⟨x, h1, h2⟩ := List.any_eq_true.1 hh
  exact hx ⟨x, h1, of_decide_eq_true h2⟩
def rowsI (K : List (List Int)) : PV := .sl 1 (K.map ints)
def rows2 (K : List (List (List Int))) : PV := .sl 1 (K.map rowsI)
theorem pure_rowsI (K : List (List Int)) : (rowsI K).pure = true := pureL_map ints pure_ints K
theorem ren_rowsI (ρ : Nat → Nat) (K : List (List Int)) : (rowsI K).ren ρ = rowsI K := ren_pure ρ _ (pure_rowsI K)
theorem pure_rows2 (K : List (List (List Int))) : (rows2 K).pure = true := pureL_map rowsI pure_rowsI K
theorem ren_rows2 (ρ : Nat → Nat) (K : List (List (List Int))) : (rows2 K).ren ρ = rows2 K := ren_pure ρ _ (pure_rows2 K)
theorem pureL_rowsI (l : List (List (List Int))) : pureL (l.map rowsI) = true := pureL_map rowsI pure_rowsI l
theorem map_sealed_rowsI (H : Nat → Option AO) (keep : Nat → Bool) (n : Nat) (l : List (List (List Int))) : (l.map rowsI).map (sealed H keep n) = l.map rowsI := map_sealed_pure H keep n (pureL_rowsI l)
theorem one_rowsI (l : List (List (List Int))) : ((l.map rowsI).all fun q => q.cells.all PV.one) = true := by rw [List.all_map]; exact List.all_eq_true.2 fun _ _ => rfl
theorem getD_rowsI {l : List (List (List Int))} {k : Nat} (h : k < l.length) : (l.map rowsI).getD k .junk = rowsI (l.getD k []) := by
  simp [List.getD_eq_getElem?_getD, h]
theorem drop_getD {α : Type} {l : List α} {k : Nat} (d : α) (h : k < l.length) : l.drop k = l.getD k d :: l.drop (k + 1) := by
  rw [List.drop_eq_getElem_cons h]; simp [List.getD_eq_getElem?_getD, h]
def Short2 (K : List (List Int)) : Prop := ∀ x, x ∈ K → x.length ≤ 9223372036854775807
theorem Short2.at {K : List (List Int)} (h : Short2 K) (k : Nat) : (K.getD k []).length ≤ 9223372036854775807 := by
  by_cases hk : k < K.length
  · have : K.getD k [] = K[k] := by simp [List.getD_eq_getElem?_getD, hk]
    rw [this]; exact h _ (List.getElem_mem hk)
  · have : K.getD k [] = [] := by simp [List.getD_eq_getElem?_getD, hk]
    rw [this]; exact Nat.zero_le _
theorem CompareFunc_pure (a b : List (List Int)) (ha : a.length ≤ 1000000000) (hb : b.length ≤ 1000000000) (ha2 : Short2 a) (hb2 : Short2 b) : Pure Tryd.prog 54 [rowsI a, rowsI b, .fn 48 []] (encI (lexL a b)) [] := by
  refine Pure.intro (ts := [6]) Tryd.func54 (by kernel_rfl) rfl rfl rfl (Nat.le_of_ble_eq_true rfl) ?_ ?_
  · simp [encI, PV.pure, pure_rowsI, pureL]
  refine sY [0, 1, 2] (fun P S K => K ⟨[(0, S.get 0), (1, S.get 1), (2, S.get 2)], S.hp, S.nx, S.gh⟩) ?_
  all_goals
  refine Tri.seq ?_
  refine sZ [0, 1, 2, 11, 12, 13] (fun P S K => XvLen P 84 (S.get 0) (fun r1 _ => K ⟨[(0, S.get 0), (1, S.get 1), (2, S.get 2), (11, (S.get 0)), (12, r1), (13, (.atom (.int .i64 0)))], S.hp, S.nx, S.gh⟩)) fun K hK => ?_
  repeat' (first | (refine hK _ ?_; clear hK K) | ((first | refine xG_intro (fun hg => ?_) (fun hg => ?_) | refine fun (hg : (_ : Prop)) => ?_) <;> ((try simp only [BQ] at hg); try (exfalso; omega))) | refine And.intro ?_ ?_ | exact cl | refine one_take ?_ _ | refine one_drop ?_ _ | (refine st ?_; try simp only [rowsI]) | simp only [rowsI])
  all_goals
  refine Tri.block ?_
  refine Tri.loop (α := (k : Nat) ×' ((k ≤ a.length ∧ k ≤ b.length) ∧ lexL a b = lexL (a.drop k) (b.drop k))) (fun z => (fun (k : Nat) => (⟨[(0, rowsI a), (1, rowsI b), (2, .fn 48 []), (11, rowsI a), (12, encI a.length), (13, encI k)], [], 0, []⟩ : St)) z.1) (fun z => (fun (k : Nat) => a.length - k) z.1) ⟨0, ⟨by omega, rfl⟩⟩ [] ?_ ?_
  ·exact leqW28
  ·rintro ⟨k, ⟨⟨hk, hk2⟩, hkj⟩⟩
   refine sY [0, 1, 2, 11, 12, 13, 14] (fun P S K => XvBinOV P .lss 3 (.tmp 12) (S.get 13) (S.get 12) (fun r0 _ => K ⟨[(0, S.get 0), (1, S.get 1), (2, S.get 2), (11, S.get 11), (12, S.get 12), (13, S.get 13), (14, r0)], S.hp, S.nx, S.gh⟩)) ?_
   all_goals
   refine Tri.seq ?_
   refine Tri.cond rfl (fun h14 => ?_) (fun h14 => ?_)
   ·try (cases h14; done)
    all_goals (try simp only [CQ] at h14)
    all_goals
    refine Tri.skip ?_
    refine Tri.seq ?_
    refine Tri.block ?_
    have hka : k < a.length := by omega
    refine sZ [0, 1, 2, 7, 8, 11, 12, 13] (fun P S K => XvIndexAddr P 84 (S.get 11) (S.get 13) (fun r1 _ => XvLoad P 22 (M S.hp S.nx) r1 (fun r2 _ => K ⟨[(0, S.get 0), (1, S.get 1), (2, S.get 2), (7, (S.get 13)), (8, r2), (11, S.get 11), (12, S.get 12), (13, S.get 13)], S.hp, S.nx, S.gh⟩))) fun K hK => ?_
    repeat' (first | (refine hK _ ?_; clear hK K) | ((first | refine xG_intro (fun hg => ?_) (fun hg => ?_) | refine fun (hg : (_ : Prop)) => ?_) <;> ((try simp only [BQ] at hg); try (exfalso; omega))) | refine And.intro ?_ ?_ | exact cl | refine one_take ?_ _ | refine one_drop ?_ _ | (refine st ?_; try simp only [rowsI, getD_ints hka]) | simp only [rowsI, getD_ints hka])
    all_goals
    refine Tri.seq ?_
    refine sZ [0, 1, 2, 7, 8, 11, 12, 13, 21] (fun P S K => XvLen P 84 (S.get 1) (fun r2 _ => XvBinOV P .geq 3 (.tmp 20) (S.get 7) r2 (fun r3 _ => K ⟨[(0, S.get 0), (1, S.get 1), (2, S.get 2), (7, S.get 7), (8, S.get 8), (11, S.get 11), (12, S.get 12), (13, S.get 13), (21, r3)], S.hp, S.nx, S.gh⟩))) fun K hK => ?_
    repeat' (first | (refine hK _ ?_; clear hK K) | ((first | refine xG_intro (fun hg => ?_) (fun hg => ?_) | refine fun (hg : (_ : Prop)) => ?_) <;> ((try simp only [BQ] at hg); try (exfalso; omega))) | refine And.intro ?_ ?_ | exact cl | refine one_take ?_ _ | refine one_drop ?_ _ | (refine st ?_; try simp only [rowsI]) | simp only [rowsI])
    all_goals
    refine Tri.cond rfl (fun h21 => ?_) (fun h21 => ?_)
    ·try (cases h21; done)
     all_goals (try simp only [CQ] at h21)
     all_goals
     refine sY [6] (fun P S K => K ⟨[(6, (.atom (.int .i64 1)))], S.hp, S.nx, S.gh⟩) ?_
     all_goals
     refine Tri.ret ?_
     show ResOk _ _ _ _
     rw [hkj, lexL_end (by omega) hk hk2, if_neg (by omega), if_pos (by omega)]
     exact ResOk.val lsrW28 lpvW28
    ·try (cases h21; done)
     all_goals (try simp only [CQ] at h21)
     all_goals
     refine Tri.skip ?_
     have hkb : k < b.length := by omega
     have hl : lexL a b = if lexi (a.getD k []) (b.getD k []) ≠ 0 then lexi (a.getD k []) (b.getD k []) else lexL (a.drop (k + 1)) (b.drop (k + 1)) := by rw [hkj, drop_getD [] hka, drop_getD [] hkb]; rfl
     refine sZ [0, 1, 2, 8, 9, 11, 12, 13] (fun P S K => XvIndexAddr P 84 (S.get 1) (S.get 7) (fun r2 _ => XvLoad P 22 (M S.hp S.nx) r2 (fun r3 _ => K ⟨[(0, S.get 0), (1, S.get 1), (2, S.get 2), (8, S.get 8), (9, r3), (11, S.get 11), (12, S.get 12), (13, S.get 13)], S.hp, S.nx, S.gh⟩))) fun K hK => ?_
     repeat' (first | (refine hK _ ?_; clear hK K) | ((first | refine xG_intro (fun hg => ?_) (fun hg => ?_) | refine fun (hg : (_ : Prop)) => ?_) <;> ((try simp only [BQ] at hg); try (exfalso; omega))) | refine And.intro ?_ ?_ | exact cl | refine one_take ?_ _ | refine one_drop ?_ _ | (refine st ?_; try simp only [rowsI, getD_ints hkb]) | simp only [rowsI, getD_ints hkb])
     all_goals
     refine sZ [0, 1, 2, 10, 11, 12, 13] (fun P S K => XvFnIV P (M S.hp S.nx) (S.get 2) [(S.get 8), (S.get 9)] (fun r3 e3 => K ⟨[(0, S.get 0), (1, S.get 1), (2, S.get 2), (10, r3), (11, S.get 11), (12, S.get 12), (13, S.get 13)], (Eff.hp e3 S.nx S.hp), (S.nx + e3.add.length), S.gh⟩)) fun K hK => ?_
     repeat' (first | (refine hK _ ?_; clear hK K) | ((first | refine xG_intro (fun hg => ?_) (fun hg => ?_) | refine fun (hg : (_ : Prop)) => ?_) <;> ((try simp only [BQ] at hg); try (exfalso; omega))) | refine And.intro ?_ ?_ | exact cl | refine one_take ?_ _ | refine one_drop ?_ _ | refine .inl ⟨_, _, slicesCompare_pure (a.getD k []) (b.getD k []) (ha2.at k) (hb2.at k), ?_⟩ | refine ⟨_, _, slicesCompare_pure (a.getD k []) (b.getD k []) (ha2.at k) (hb2.at k), ?_⟩ | (refine st ?_; try simp only [rowsI]) | simp only [rowsI])
     all_goals
     refine sY [0, 1, 2, 10, 11, 12, 13, 31] (fun P S K => XvBinOV P .neq 3 (.const (.int .i64 0)) (S.get 10) (.atom (.int .i64 0)) (fun r1 _ => K ⟨[(0, S.get 0), (1, S.get 1), (2, S.get 2), (10, S.get 10), (11, S.get 11), (12, S.get 12), (13, S.get 13), (31, r1)], S.hp, S.nx, S.gh⟩)) ?_
     all_goals
     refine Tri.cond rfl (fun h31 => ?_) (fun h31 => ?_)
     ·try (cases h31; done)
      all_goals (try simp only [CQ] at h31)
      all_goals
      refine sY [6] (fun P S K => K ⟨[(6, (S.get 10))], S.hp, S.nx, S.gh⟩) ?_
      all_goals
      refine Tri.ret ?_
      show ResOk _ _ _ _
      rw [hl, if_pos h31]
      exact ResOk.val lsrW28 lpvW28
     ·try (cases h31; done)
      all_goals (try simp only [CQ] at h31)
      all_goals
      refine Tri.skip ?_
      refine rY [0, 1, 2, 11, 12, 13] (fun P S K => XvBinOV P .add 3 (.const (.int .i64 1)) (S.get 13) (.atom (.int .i64 1)) (fun r0 _ => K ⟨[(0, S.get 0), (1, S.get 1), (2, S.get 2), (11, S.get 11), (12, S.get 12), (13, r0)], S.hp, S.nx, S.gh⟩)) ?_
      all_goals try simp (disch := omega) only [wrap_id, wrap8_id]
      all_goals
      refine ⟨⟨k + 1, by omega, by rw [hl, if_neg (by simpa using h31)]⟩, [], by dsimp only; omega, ?_⟩
      exact leqW28
   ·try (cases h14; done)
    all_goals (try simp only [CQ] at h14)
    all_goals
    refine Tri.exit ?_
    refine Tri.seq ?_
    refine sZ [38] (fun P S K => XvLen P 84 (S.get 0) (fun r1 _ => XvLen P 84 (S.get 1) (fun r3 _ => XvBinOV P .lss 3 (.tmp 37) r1 r3 (fun r4 _ => K ⟨[(38, r4)], S.hp, S.nx, S.gh⟩)))) fun K hK => ?_
    repeat' (first | (refine hK _ ?_; clear hK K) | ((first | refine xG_intro (fun hg => ?_) (fun hg => ?_) | refine fun (hg : (_ : Prop)) => ?_) <;> ((try simp only [BQ] at hg); try (exfalso; omega))) | refine And.intro ?_ ?_ | exact cl | refine one_take ?_ _ | refine one_drop ?_ _ | (refine st ?_; try simp only [rowsI]) | simp only [rowsI])
    all_goals
    refine Tri.cond rfl (fun h38 => ?_) (fun h38 => ?_)
    ·try (cases h38; done)
     all_goals (try simp only [CQ] at h38)
     all_goals
     refine sY [6] (fun P S K => K ⟨[(6, (.atom (.int .i64 (-1))))], S.hp, S.nx, S.gh⟩) ?_
     all_goals
     refine Tri.ret ?_
     show ResOk _ _ _ _
     rw [hkj, lexL_end (by omega) hk hk2, if_pos (by omega)]
     exact ResOk.val lsrW28 lpvW28
    ·try (cases h38; done)
     all_goals (try simp only [CQ] at h38)
     all_goals
     refine Tri.skip ?_
     refine sY [6] (fun P S K => K ⟨[(6, (.atom (.int .i64 0)))], S.hp, S.nx, S.gh⟩) ?_
     all_goals
     refine Tri.ret ?_
     show ResOk _ _ _ _
     rw [hkj, lexL_end (by omega) hk hk2, if_neg (by omega), if_neg (by omega)]
     exact ResOk.val lsrW28 lpvW28
theorem paths1_pure (a b : List (List Int)) (ha : a.length ≤ 1000000000) (hb : b.length ≤ 1000000000) (ha2 : Short2 a) (hb2 : Short2 b) : Pure Tryd.prog 53 [rowsI a, rowsI b] (encI (lexL a b)) [] := by
  refine Pure.intro (ts := [4]) Tryd.func53 (by kernel_rfl) rfl rfl rfl (Nat.le_of_ble_eq_true rfl) ?_ ?_
  · simp [encI, PV.pure, pure_rowsI, pureL]
  refine sY [0, 1] (fun P S K => K ⟨[(0, S.get 0), (1, S.get 1)], S.hp, S.nx, S.gh⟩) ?_
  all_goals
  refine sZ [4] (fun P S K => XvFnIV P (M S.hp S.nx) (.fn 54 []) [(S.get 0), (S.get 1), (.fn 48 [])] (fun r2 e2 => K ⟨[(4, r2)], (Eff.hp e2 S.nx S.hp), (S.nx + e2.add.length), S.gh⟩)) fun K hK => ?_
  repeat' (first | (refine hK _ ?_; clear hK K) | ((first | refine xG_intro (fun hg => ?_) (fun hg => ?_) | refine fun (hg : (_ : Prop)) => ?_) <;> ((try simp only [BQ] at hg); try (exfalso; omega))) | refine And.intro ?_ ?_ | exact cl | refine one_take ?_ _ | refine one_drop ?_ _ | refine .inl ⟨_, _, CompareFunc_pure a b ha hb ha2 hb2, ?_⟩ | refine ⟨_, _, CompareFunc_pure a b ha hb ha2 hb2, ?_⟩ | refine st ?_)
  all_goals
  refine Tri.ret ?_
  show ResOk _ _ _ _
  exact ResOk.val lsrW28 lpvW28
def keyC (ks : List (List Int)) (x y : Int) : Int := lexi (ks.getD x.toNat []) (ks.getD y.toNat [])
def keyC2 (ks : List (List (List Int))) (x y : Int) : Int := lexL (ks.getD x.toNat []) (ks.getD y.toNat [])
theorem order1_pure (ks : List (List Int)) (x y : Nat) (hx : x < ks.length) (hy : y < ks.length) (hks : Short2 ks) : Pure Tryd.prog 74 [encI x, encI y, .fptr 1 [.fn 48 []] 0 0, .fptr 1 [rowsI ks] 0 0] (encI (keyC ks x y)) [] := by
  refine Pure.intro (ts := [6]) Tryd.func74 (by kernel_rfl) rfl rfl rfl (Nat.le_of_ble_eq_true rfl) ?_ ?_
  · simp [encI, PV.pure, pure_ints, pureL, pureL_ints, rowsI]
  refine sY [0, 1, 2, 3] (fun P S K => K ⟨[(0, S.get 0), (1, S.get 1), (2, S.get 2), (3, S.get 3)], S.hp, S.nx, S.gh⟩) ?_
  all_goals
  refine sD 11 [6] (fun P GD S K => XvLoad P 82 (M S.hp S.nx) (S.get 2) (fun r0 e0 => XvLoad P 84 (M S.hp S.nx) (S.get 3) (fun r1 e1 => XvIndexAddr P 84 r1 (S.get 0) (fun r3 e3 => XvLoad P 22 (M S.hp S.nx) r3 (fun r4 e4 => XvLoad P 84 (M S.hp S.nx) (S.get 3) (fun r5 e5 => XvIndexAddr P 84 r5 (S.get 1) (fun r7 e7 => XvLoad P 22 (M S.hp S.nx) r7 (fun r8 e8 => XvFnV P (M S.hp S.nx) r0 [r4, r8] (fun r9 e9 => (trOk S.nx GD [⟨S.nx, 0, e0.rd, [], []⟩, ⟨S.nx, 0, e1.rd, [], []⟩, ⟨S.nx, 0, [], [], []⟩, ⟨S.nx, 0, e3.rd, [], []⟩, ⟨S.nx, 0, e4.rd, [], []⟩, ⟨S.nx, 0, e5.rd, [], []⟩, ⟨S.nx, 0, [], [], []⟩, ⟨S.nx, 0, e7.rd, [], []⟩, ⟨S.nx, 0, e8.rd, [], []⟩, (Eff.tr e9 S.nx), ⟨(S.nx + e9.add.length), 0, [], [], []⟩] = true ∧ K ⟨[(6, r9)], (Eff.hp e9 S.nx S.hp), (S.nx + e9.add.length), S.gh⟩)))))))))) fun K hK => ?_
  repeat' (first | (refine hK _ ?_; clear hK K) | (refine (?_ : trOk _ _ _ = true); kernel_rfl) | ((first | refine xG_intro (fun hg => ?_) (fun hg => ?_) | refine fun (hg : (_ : Prop)) => ?_) <;> ((try simp only [BQ] at hg); try (exfalso; omega))) | refine And.intro ?_ ?_ | exact cl | refine one_take ?_ _ | refine one_drop ?_ _ | refine .inl ⟨_, _, slicesCompare_pure (ks.getD x []) (ks.getD y []) (hks.at x) (hks.at y), ?_⟩ | refine ⟨_, _, slicesCompare_pure (ks.getD x []) (ks.getD y []) (hks.at x) (hks.at y), ?_⟩ | (refine st ?_; try simp only [rowsI, getD_ints hx, getD_ints hy]) | simp only [rowsI, getD_ints hx, getD_ints hy])
  all_goals
  refine Tri.ret ?_
  show ResOk _ _ _ _
  unfold keyC; simp only [Int.toNat_natCast]; exact ResOk.val lsrW28 lpvW28
theorem order2_pure (ks : List (List (List Int))) (x y : Nat) (hx : x < ks.length) (hy : y < ks.length) (hks : ∀ k, k ∈ ks → k.length ≤ 1000000000 ∧ Short2 k) : Pure Tryd.prog 75 [encI x, encI y, .fptr 1 [.fn 53 []] 0 0, .fptr 1 [rows2 ks] 0 0] (encI (keyC2 ks x y)) [] := by
  have gx : ks.getD x [] ∈ ks := by simp [List.getD_eq_getElem?_getD, hx]
  have gy : ks.getD y [] ∈ ks := by simp [List.getD_eq_getElem?_getD, hy]
  refine Pure.intro (ts := [6]) Tryd.func75 (by kernel_rfl) rfl rfl rfl (Nat.le_of_ble_eq_true rfl) ?_ ?_
  · simp [encI, PV.pure, pure_rowsI, pureL, pureL_rowsI, rows2]
  refine sY [0, 1, 2, 3] (fun P S K => K ⟨[(0, S.get 0), (1, S.get 1), (2, S.get 2), (3, S.get 3)], S.hp, S.nx, S.gh⟩) ?_
  all_goals
  refine sD 11 [6] (fun P GD S K => XvLoad P 89 (M S.hp S.nx) (S.get 2) (fun r0 e0 => XvLoad P 86 (M S.hp S.nx) (S.get 3) (fun r1 e1 => XvIndexAddr P 86 r1 (S.get 0) (fun r3 e3 => XvLoad P 84 (M S.hp S.nx) r3 (fun r4 e4 => XvLoad P 86 (M S.hp S.nx) (S.get 3) (fun r5 e5 => XvIndexAddr P 86 r5 (S.get 1) (fun r7 e7 => XvLoad P 84 (M S.hp S.nx) r7 (fun r8 e8 => XvFnV P (M S.hp S.nx) r0 [r4, r8] (fun r9 e9 => (trOk S.nx GD [⟨S.nx, 0, e0.rd, [], []⟩, ⟨S.nx, 0, e1.rd, [], []⟩, ⟨S.nx, 0, [], [], []⟩, ⟨S.nx, 0, e3.rd, [], []⟩, ⟨S.nx, 0, e4.rd, [], []⟩, ⟨S.nx, 0, e5.rd, [], []⟩, ⟨S.nx, 0, [], [], []⟩, ⟨S.nx, 0, e7.rd, [], []⟩, ⟨S.nx, 0, e8.rd, [], []⟩, (Eff.tr e9 S.nx), ⟨(S.nx + e9.add.length), 0, [], [], []⟩] = true ∧ K ⟨[(6, r9)], (Eff.hp e9 S.nx S.hp), (S.nx + e9.add.length), S.gh⟩)))))))))) fun K hK => ?_
  repeat' (first | (refine hK _ ?_; clear hK K) | (refine (?_ : trOk _ _ _ = true); kernel_rfl) | ((first | refine xG_intro (fun hg => ?_) (fun hg => ?_) | refine fun (hg : (_ : Prop)) => ?_) <;> ((try simp only [BQ] at hg); try (exfalso; omega))) | refine And.intro ?_ ?_ | exact cl | refine one_take ?_ _ | refine one_drop ?_ _ | refine .inl ⟨_, _, paths1_pure (ks.getD x []) (ks.getD y []) (hks _ gx).1 (hks _ gy).1 (hks _ gx).2 (hks _ gy).2, ?_⟩ | refine ⟨_, _, paths1_pure (ks.getD x []) (ks.getD y []) (hks _ gx).1 (hks _ gy).1 (hks _ gx).2 (hks _ gy).2, ?_⟩ | (refine st ?_; try simp only [rows2, rowsI, getD_rowsI hx, getD_rowsI hy]) | simp only [rows2, rowsI, getD_rowsI hx, getD_rowsI hy])
  all_goals
  refine Tri.ret ?_
  show ResOk _ _ _ _
  unfold keyC2; simp only [Int.toNat_natCast]; exact ResOk.val lsrW28 lpvW28
end Go.Proofs.YtfnkciboencifaaDoor
set_option linter.all false
namespace Go.Proofs.YtfnkciboencifaaDoor
open Go Go.RowKit
set_option linter.unusedSimpArgs false
set_option linter.unusedVariables false
set_option maxRecDepth 20000
set_option maxHeartbeats 400000
theorem leqW29 {p : Prop} (h : p := by (refine ⟨4, ?_, ?_, rfl, by simp, rfl, fun _ h _ => absurd h (Nat.not_lt_zero _)⟩ <;> (simp only [List.forall_mem_cons]; repeat' (first | refine And.intro ?_ ?_ | (intro p hp; exact absurd hp List.not_mem_nil) | rfl | exact sp (pure_spec _) | exact sp (pure_paths _) | exact sp (pure_rowsI _) | exact sp (pure_rows2 _) | exact (sealed_pure _ _ _ (pure_ints _)).trans (ren_ints _ _).symm | exact (sealed_pure _ _ _ (pure_strs _)).trans (ren_strs _ _).symm | exact sp (by assumption) | (intro o ho; cases ho; refine ⟨by decide, ?_⟩; first | (refine LeqS.row rfl ?_ ?_; (next => (first | rfl | (simp only [List.map_append, List.map_cons, List.map_nil, List.append_nil, List.nil_append, List.append_assoc, List.cons_append, encI, encS, ints, strs]; done) | (simp [encI, encS, ints, strs, rowsI, rows2, nI]; done))); (next => (first | rfl | exact pureL_encI _ | exact pureL_encS _ | exact pureL_ints _ | exact pureL_strs _ | (simp [pureL_append, pureL_encI, pureL_encS, pureL_ints, pureL_strs, pureL, PV.pure, pure_ints, pure_strs, pure_spec, pure_paths, pure_rowsI, pure_rows2, pureL_rowsI, pureL_repI]; done))); done) | refine ⟨_, rfl, rfl, ?_⟩) | (simp [St.born, St.known, retV, St.get, St.obj, lk, sealed, PV.ren, renL, rmap, AO.ren, ints, strs, encI, encS, map_sealed_encI, map_sealed_encS, map_sealed_ints, map_sealed_strs, map_ren_encI, map_ren_encS, map_ren_ints, map_ren_strs, renL_encI, renL_encS, renL_ints, renL_strs, ren_spec, ren_paths, ren_rowsI, ren_rows2] <;> omega))))) : p := h
theorem lelW29 {p : Prop} (h : p := by (first | rfl | (simp only [List.map_append, List.map_cons, List.map_nil, List.append_nil, List.nil_append, List.append_assoc, List.cons_append, encI, encS, ints, strs]; done) | (simp [encI, encS, ints, strs, rowsI, rows2, nI]; done))) : p := h
theorem lpuW29 {p : Prop} (h : p := by (first | rfl | exact pureL_encI _ | exact pureL_encS _ | exact pureL_ints _ | exact pureL_strs _ | (simp [pureL_append, pureL_encI, pureL_encS, pureL_ints, pureL_strs, pureL, PV.pure, pure_ints, pure_strs, pure_spec, pure_paths, pure_rowsI, pure_rows2, pureL_rowsI, pureL_repI]; done))) : p := h
theorem lsrW29 {p : Prop} (h : p := by (first | rfl | (simp [St.born, St.known, retV, St.get, St.obj, lk, sealed, PV.ren, renL, rmap, AO.ren, ints, strs, encI, encS, map_sealed_encI, map_sealed_encS, map_sealed_ints, map_sealed_strs, map_ren_encI, map_ren_encS, map_ren_ints, map_ren_strs, renL_encI, renL_encS, renL_ints, renL_strs, ren_spec, ren_paths, ren_rowsI, ren_rows2]; done))) : p := h
theorem mem_nI {x : Int} {l : List Nat} (h : x ∈ nI l) : ∃ a, a ∈ l ∧ x = (a : Int) := by
  obtain ⟨a, h1, h2⟩ := List.mem_map.1 h
  exact ⟨a, h1, h2.symm⟩
theorem pureL_repI (m : Nat) : pureL (List.replicate m (encI 0)) = true := by
  rw [pureL_all, List.all_eq_true]
  intro x hx
  rw [(List.mem_replicate.1 hx).2]; rfl
theorem fill_len {i n : Nat} (h : i ≤ n) (x : PV) : ((nI (List.range i)).map encI ++ List.replicate (n - i) x).length = n := by simp [nI]; omega
theorem fill_get {i n : Nat} (h : i < n) (x : PV) : ((nI (List.range i)).map encI ++ List.replicate (n - i) x).getD i .junk = x := by
  have e : n - i = (n - (i + 1)) + 1 := by omega
  rw [List.getD_eq_getElem?_getD, List.getElem?_append_right (by simp [nI]), e, List.replicate_succ]
  simp [nI]
theorem fill_set {i n : Nat} (h : i < n) (x : PV) : ((nI (List.range i)).map encI ++ List.replicate (n - i) x).set i (PV.atom (.int .i64 (i : Int))) = (nI (List.range (i + 1))).map encI ++ List.replicate (n - (i + 1)) x := by
  have e : n - i = (n - (i + 1)) + 1 := by omega
  rw [e, List.replicate_succ, List.set_append_right _ _ (by simp [nI])]
  simp [nI, List.range_succ, encI]
theorem orderI_pure (ks : List (List Int)) (hn : ks.length ≤ 1000000) (hks : Short2 ks) (hq : ks.length < 20 ∨ ∀ x, x ∈ ks → ∀ y, y ∈ ks → ¬ lexi x y < 0) : Pure Tryd.prog 51 [rowsI ks, .fn 48 []] (.ob 0 1 0 ks.length) [⟨1, (sortedL (keyC ks) (nI (List.range ks.length))).map encI⟩] := by
  have hls : (sortedL (keyC ks) (nI (List.range ks.length))).length = ks.length := by rw [sortedL_len, nI_len, List.length_range]
  have hs := sortStable_proc 74 (.fptr 1 [.fn 48 []] 0 0) (.fptr 1 [rowsI ks] 0 0) (keyC ks) (nI (List.range ks.length)) rfl (by simp [PV.pure, pureL, pure_rowsI]) (by rw [nI_len, List.length_range]; omega)
    (fun x y hx hy => by
      obtain ⟨a, ha, rfl⟩ := mem_nI hx
      obtain ⟨b, hb, rfl⟩ := mem_nI hy
      exact order1_pure ks a b (List.mem_range.1 ha) (List.mem_range.1 hb) hks)
    (hq.imp (fun h => by rw [nI_len, List.length_range]; exact h) fun h x y hx hy => by
      obtain ⟨a, ha, rfl⟩ := mem_nI hx
      obtain ⟨b, hb, rfl⟩ := mem_nI hy
      have ha := List.mem_range.1 ha
      have hb := List.mem_range.1 hb
      have e1 : ks.getD a [] ∈ ks := by simp [List.getD_eq_getElem?_getD, ha]
      have e2 : ks.getD b [] ∈ ks := by simp [List.getD_eq_getElem?_getD, hb]
      exact h _ e1 _ e2)
  simp only [nI_len, List.length_range] at hs
  refine Pure.intro (ts := [4]) Tryd.func51 (by kernel_rfl) rfl rfl rfl (Nat.le_of_ble_eq_true rfl) ?_ ?_
  · simp [encI, PV.pure, pure_rowsI, pureL, pureL_ints, rowsI]
  refine sZ [2, 3] (fun P S K => XvBox S.nx (S.get 0) (fun r0 e0 => XvBox (S.nx + e0.add.length) (S.get 1) (fun r1 e1 => K ⟨[(2, r0), (3, r1)], (Eff.hp e1 (S.nx + e0.add.length) (Eff.hp e0 S.nx S.hp)), ((S.nx + e0.add.length) + e1.add.length), S.gh⟩))) fun K hK => ?_
  repeat' (first | (refine hK _ ?_; clear hK K) | ((first | refine xG_intro (fun hg => ?_) (fun hg => ?_) | refine fun (hg : (_ : Prop)) => ?_) <;> ((try simp only [BQ] at hg); try (exfalso; omega))) | refine And.intro ?_ ?_ | exact cl | refine one_take ?_ _ | refine one_drop ?_ _ | (refine st ?_; try simp only [rowsI]) | simp only [rowsI])
  all_goals
  refine sZ [2, 3, 5] (fun P S K => XvLoad P 84 (M S.hp S.nx) (S.get 2) (fun r0 _ => XvLen P 84 r0 (fun r1 _ => XvMake P 22 (M S.hp S.nx) r1 r1 (fun r2 e2 => K ⟨[(2, S.get 2), (3, S.get 3), (5, r2)], (Eff.hp e2 S.nx S.hp), (S.nx + e2.add.length), S.gh⟩)))) fun K hK => ?_
  repeat' (first | (refine hK _ ?_; clear hK K) | ((first | refine xG_intro (fun hg => ?_) (fun hg => ?_) | refine fun (hg : (_ : Prop)) => ?_) <;> ((try simp only [BQ] at hg); try (exfalso; omega))) | refine And.intro ?_ ?_ | exact cl | refine one_take ?_ _ | refine one_drop ?_ _ | (refine st ?_; try simp only [rowsI]) | simp only [rowsI])
  all_goals
  refine Tri.seq ?_
  refine sZ [2, 3, 5, 11, 12] (fun P S K => XvLen P 22 (S.get 5) (fun r1 _ => K ⟨[(2, S.get 2), (3, S.get 3), (5, S.get 5), (11, r1), (12, (.atom (.int .i64 0)))], S.hp, S.nx, S.gh⟩)) fun K hK => ?_
  repeat' (first | (refine hK _ ?_; clear hK K) | ((first | refine xG_intro (fun hg => ?_) (fun hg => ?_) | refine fun (hg : (_ : Prop)) => ?_) <;> ((try simp only [BQ] at hg); try (exfalso; omega))) | refine And.intro ?_ ?_ | exact cl | refine one_take ?_ _ | refine one_drop ?_ _ | (refine st ?_; try simp only [rowsI]) | simp only [rowsI])
  all_goals
  refine Tri.block ?_
  refine Tri.loop (α := (i : Nat) ×' (i ≤ ks.length)) (fun z => (fun (i : Nat) => (⟨[(2, .ptr 0 1 0 0), (3, .ptr 1 1 0 0), (5, .ob 2 1 0 ks.length), (11, encI ks.length), (12, encI i)], [(0, some ⟨1, [rowsI ks]⟩), (1, some ⟨1, [.fn 48 []]⟩), (2, some ⟨1, (nI (List.range i)).map encI ++ List.replicate (ks.length - i) (encI 0)⟩)], 3, []⟩ : St)) z.1) (fun z => (fun (i : Nat) => ks.length - i) z.1) ⟨0, Nat.zero_le _⟩ [0, 1, 2] ?_ ?_
  ·exact leqW29
  ·rintro ⟨i, hi⟩
   refine sY [2, 3, 5, 11, 12, 13] (fun P S K => XvBinOV P .lss 3 (.tmp 11) (S.get 12) (S.get 11) (fun r0 _ => K ⟨[(2, S.get 2), (3, S.get 3), (5, S.get 5), (11, S.get 11), (12, S.get 12), (13, r0)], S.hp, S.nx, S.gh⟩)) ?_
   all_goals
   refine Tri.seq ?_
   refine Tri.cond rfl (fun h13 => ?_) (fun h13 => ?_)
   ·try (cases h13; done)
    all_goals (try simp only [CQ] at h13)
    all_goals
    refine Tri.skip ?_
    refine Tri.seq ?_
    refine Tri.block ?_
    refine sY [2, 3, 5, 6, 11, 12] (fun P S K => K ⟨[(2, S.get 2), (3, S.get 3), (5, S.get 5), (6, (S.get 12)), (11, S.get 11), (12, S.get 12)], S.hp, S.nx, S.gh⟩) ?_
    all_goals
    have hi2 : i < ks.length := by omega
    refine rZ [2, 3, 5, 11, 12] (fun P S K => XvIndexAddr P 22 (S.get 5) (S.get 6) (fun r3 _ => XvStore P 3 (M S.hp S.nx) r3 (S.get 6) (fun r4 e4 => K ⟨[(2, S.get 2), (3, S.get 3), (5, S.get 5), (11, S.get 11), (12, S.get 12)], (Eff.hp e4 S.nx S.hp), (S.nx + e4.add.length), S.gh⟩))) fun K hK => ?_
    repeat' (first | (refine hK _ ?_; clear hK K) | ((first | refine xG_intro (fun hg => ?_) (fun hg => ?_) | refine fun (hg : (_ : Prop)) => ?_) <;> ((try simp only [BQ] at hg); try (exfalso; omega))) | refine And.intro ?_ ?_ | exact cl | refine one_take ?_ _ | refine one_drop ?_ _ | (refine st ?_; try simp only [rowsI, fill_len hi, fill_get hi2, nI_len, List.length_range]) | simp only [rowsI, fill_len hi, fill_get hi2, nI_len, List.length_range])
    all_goals
    refine rY [2, 3, 5, 11, 12] (fun P S K => XvBinOV P .add 3 (.const (.int .i64 1)) (S.get 12) (.atom (.int .i64 1)) (fun r0 _ => K ⟨[(2, S.get 2), (3, S.get 3), (5, S.get 5), (11, S.get 11), (12, r0)], S.hp, S.nx, S.gh⟩)) ?_
    all_goals try simp (disch := omega) only [wrap_id, wrap8_id]
    all_goals
    rw [fill_set hi2]
    refine ⟨⟨i + 1, by omega⟩, [0, 1, 2], by dsimp only; omega, ?_⟩
    exact leqW29
   ·try (cases h13; done)
    all_goals (try simp only [CQ] at h13)
    all_goals
    refine Tri.exit ?_
    obtain rfl : i = ks.length := by omega
    rw [Nat.sub_self, List.replicate_zero, List.append_nil]
    refine sZ [5] (fun P S K => XvMakeFV (.func 74) [] [(S.get 3), (S.get 2)] (fun r1 _ => XvFnIV P (M S.hp S.nx) (.fn 73 []) [(S.get 5), r1] (fun r2 e2 => K ⟨[(5, S.get 5)], (Eff.hp e2 S.nx S.hp), (S.nx + e2.add.length), S.gh⟩))) fun K hK => ?_
    repeat' (first | (refine hK _ ?_; clear hK K) | ((first | refine xG_intro (fun hg => ?_) (fun hg => ?_) | refine fun (hg : (_ : Prop)) => ?_) <;> ((try simp only [BQ] at hg); try (exfalso; omega))) | refine And.intro ?_ ?_ | exact cl | refine one_take ?_ _ | refine one_drop ?_ _ | refine .inr (vProc.row 2 1 hs rfl (pureL_encI _) (pureL_encI _) rfl (by simp [sealed, PV.ren, renL, rmap, St.obj, lk, ren_rowsI, rowsI, renL_pure _ _ (pureL_ints _), map_ren_pure _ (pureL_ints _)]) rfl (flat_encI _) ?_) | (refine st ?_; try simp only [rowsI]) | simp only [rowsI])
    all_goals
    refine sY [4] (fun P S K => K ⟨[(4, (S.get 5))], S.hp, S.nx, S.gh⟩) ?_
    all_goals
    refine Tri.ret ?_
    show ResOk _ _ _ _
    exact ResOk.row 2 rfl lelW29 lpuW29 lsrW29
theorem orderL_pure (ks : List (List (List Int))) (hn : ks.length ≤ 1000000) (hks : ∀ k, k ∈ ks → k.length ≤ 1000000000 ∧ Short2 k) (hq : ks.length < 20 ∨ ∀ x, x ∈ ks → ∀ y, y ∈ ks → ¬ lexL x y < 0) : Pure Tryd.prog 52 [rows2 ks, .fn 53 []] (.ob 0 1 0 ks.length) [⟨1, (sortedL (keyC2 ks) (nI (List.range ks.length))).map encI⟩] := by
  have hls : (sortedL (keyC2 ks) (nI (List.range ks.length))).length = ks.length := by rw [sortedL_len, nI_len, List.length_range]
  have hs := sortStable_proc 75 (.fptr 1 [.fn 53 []] 0 0) (.fptr 1 [rows2 ks] 0 0) (keyC2 ks) (nI (List.range ks.length)) rfl (by simp [PV.pure, pureL, pure_rows2]) (by rw [nI_len, List.length_range]; omega)
    (fun x y hx hy => by
      obtain ⟨a, ha, rfl⟩ := mem_nI hx
      obtain ⟨b, hb, rfl⟩ := mem_nI hy
      exact order2_pure ks a b (List.mem_range.1 ha) (List.mem_range.1 hb) hks)
    (hq.imp (fun h => by rw [nI_len, List.length_range]; exact h) fun h x y hx hy => by
      obtain ⟨a, ha, rfl⟩ := mem_nI hx
      obtain ⟨b, hb, rfl⟩ := mem_nI hy
      have ha := List.mem_range.1 ha
      have hb := List.mem_range.1 hb
      have e1 : ks.getD a [] ∈ ks := by simp [List.getD_eq_getElem?_getD, ha]
      have e2 : ks.getD b [] ∈ ks := by simp [List.getD_eq_getElem?_getD, hb]
      exact h _ e1 _ e2)
  simp only [nI_len, List.length_range] at hs
  refine Pure.intro (ts := [4]) Tryd.func52 (by kernel_rfl) rfl rfl rfl (Nat.le_of_ble_eq_true rfl) ?_ ?_
  · simp [encI, PV.pure, pure_rows2, pureL, pureL_rowsI, rows2]
  refine sZ [2, 3] (fun P S K => XvBox S.nx (S.get 0) (fun r0 e0 => XvBox (S.nx + e0.add.length) (S.get 1) (fun r1 e1 => K ⟨[(2, r0), (3, r1)], (Eff.hp e1 (S.nx + e0.add.length) (Eff.hp e0 S.nx S.hp)), ((S.nx + e0.add.length) + e1.add.length), S.gh⟩))) fun K hK => ?_
  repeat' (first | (refine hK _ ?_; clear hK K) | ((first | refine xG_intro (fun hg => ?_) (fun hg => ?_) | refine fun (hg : (_ : Prop)) => ?_) <;> ((try simp only [BQ] at hg); try (exfalso; omega))) | refine And.intro ?_ ?_ | exact cl | refine one_take ?_ _ | refine one_drop ?_ _ | (refine st ?_; try simp only [rows2]) | simp only [rows2])
  all_goals
  refine sZ [2, 3, 5] (fun P S K => XvLoad P 86 (M S.hp S.nx) (S.get 2) (fun r0 _ => XvLen P 86 r0 (fun r1 _ => XvMake P 22 (M S.hp S.nx) r1 r1 (fun r2 e2 => K ⟨[(2, S.get 2), (3, S.get 3), (5, r2)], (Eff.hp e2 S.nx S.hp), (S.nx + e2.add.length), S.gh⟩)))) fun K hK => ?_
  repeat' (first | (refine hK _ ?_; clear hK K) | ((first | refine xG_intro (fun hg => ?_) (fun hg => ?_) | refine fun (hg : (_ : Prop)) => ?_) <;> ((try simp only [BQ] at hg); try (exfalso; omega))) | refine And.intro ?_ ?_ | exact cl | refine one_take ?_ _ | refine one_drop ?_ _ | (refine st ?_; try simp only [rows2]) | simp only [rows2])
  all_goals
  refine Tri.seq ?_
  refine sZ [2, 3, 5, 11, 12] (fun P S K => XvLen P 22 (S.get 5) (fun r1 _ => K ⟨[(2, S.get 2), (3, S.get 3), (5, S.get 5), (11, r1), (12, (.atom (.int .i64 0)))], S.hp, S.nx, S.gh⟩)) fun K hK => ?_
  repeat' (first | (refine hK _ ?_; clear hK K) | ((first | refine xG_intro (fun hg => ?_) (fun hg => ?_) | refine fun (hg : (_ : Prop)) => ?_) <;> ((try simp only [BQ] at hg); try (exfalso; omega))) | refine And.intro ?_ ?_ | exact cl | refine one_take ?_ _ | refine one_drop ?_ _ | (refine st ?_; try simp only [rows2]) | simp only [rows2])
  all_goals
  refine Tri.block ?_
  refine Tri.loop (α := (i : Nat) ×' (i ≤ ks.length)) (fun z => (fun (i : Nat) => (⟨[(2, .ptr 0 1 0 0), (3, .ptr 1 1 0 0), (5, .ob 2 1 0 ks.length), (11, encI ks.length), (12, encI i)], [(0, some ⟨1, [rows2 ks]⟩), (1, some ⟨1, [.fn 53 []]⟩), (2, some ⟨1, (nI (List.range i)).map encI ++ List.replicate (ks.length - i) (encI 0)⟩)], 3, []⟩ : St)) z.1) (fun z => (fun (i : Nat) => ks.length - i) z.1) ⟨0, Nat.zero_le _⟩ [0, 1, 2] ?_ ?_
  ·exact leqW29
  ·rintro ⟨i, hi⟩
   refine sY [2, 3, 5, 11, 12, 13] (fun P S K => XvBinOV P .lss 3 (.tmp 11) (S.get 12) (S.get 11) (fun r0 _ => K ⟨[(2, S.get 2), (3, S.get 3), (5, S.get 5), (11, S.get 11), (12, S.get 12), (13, r0)], S.hp, S.nx, S.gh⟩)) ?_
   all_goals
   refine Tri.seq ?_
   refine Tri.cond rfl (fun h13 => ?_) (fun h13 => ?_)
   ·try (cases h13; done)
    all_goals (try simp only [CQ] at h13)
    all_goals
    refine Tri.skip ?_
    refine Tri.seq ?_
    refine Tri.block ?_
    refine sY [2, 3, 5, 6, 11, 12] (fun P S K => K ⟨[(2, S.get 2), (3, S.get 3), (5, S.get 5), (6, (S.get 12)), (11, S.get 11), (12, S.get 12)], S.hp, S.nx, S.gh⟩) ?_
    all_goals
    have hi2 : i < ks.length := by omega
    refine rZ [2, 3, 5, 11, 12] (fun P S K => XvIndexAddr P 22 (S.get 5) (S.get 6) (fun r3 _ => XvStore P 3 (M S.hp S.nx) r3 (S.get 6) (fun r4 e4 => K ⟨[(2, S.get 2), (3, S.get 3), (5, S.get 5), (11, S.get 11), (12, S.get 12)], (Eff.hp e4 S.nx S.hp), (S.nx + e4.add.length), S.gh⟩))) fun K hK => ?_
    repeat' (first | (refine hK _ ?_; clear hK K) | ((first | refine xG_intro (fun hg => ?_) (fun hg => ?_) | refine fun (hg : (_ : Prop)) => ?_) <;> ((try simp only [BQ] at hg); try (exfalso; omega))) | refine And.intro ?_ ?_ | exact cl | refine one_take ?_ _ | refine one_drop ?_ _ | (refine st ?_; try simp only [rows2, fill_len hi, fill_get hi2, nI_len, List.length_range]) | simp only [rows2, fill_len hi, fill_get hi2, nI_len, List.length_range])
    all_goals
    refine rY [2, 3, 5, 11, 12] (fun P S K => XvBinOV P .add 3 (.const (.int .i64 1)) (S.get 12) (.atom (.int .i64 1)) (fun r0 _ => K ⟨[(2, S.get 2), (3, S.get 3), (5, S.get 5), (11, S.get 11), (12, r0)], S.hp, S.nx, S.gh⟩)) ?_
    all_goals try simp (disch := omega) only [wrap_id, wrap8_id]
    all_goals
    rw [fill_set hi2]
    refine ⟨⟨i + 1, by omega⟩, [0, 1, 2], by dsimp only; omega, ?_⟩
    exact leqW29
   ·try (cases h13; done)
    all_goals (try simp only [CQ] at h13)
    all_goals
    refine Tri.exit ?_
    obtain rfl : i = ks.length := by omega
    rw [Nat.sub_self, List.replicate_zero, List.append_nil]
    refine sZ [5] (fun P S K => XvMakeFV (.func 75) [] [(S.get 3), (S.get 2)] (fun r1 _ => XvFnIV P (M S.hp S.nx) (.fn 73 []) [(S.get 5), r1] (fun r2 e2 => K ⟨[(5, S.get 5)], (Eff.hp e2 S.nx S.hp), (S.nx + e2.add.length), S.gh⟩))) fun K hK => ?_
    repeat' (first | (refine hK _ ?_; clear hK K) | ((first | refine xG_intro (fun hg => ?_) (fun hg => ?_) | refine fun (hg : (_ : Prop)) => ?_) <;> ((try simp only [BQ] at hg); try (exfalso; omega))) | refine And.intro ?_ ?_ | exact cl | refine one_take ?_ _ | refine one_drop ?_ _ | refine .inr (vProc.row 2 1 hs rfl (pureL_encI _) (pureL_encI _) rfl (by simp [sealed, PV.ren, renL, rmap, St.obj, lk, ren_rows2, rows2, renL_pure _ _ (pureL_rowsI _), map_ren_pure _ (pureL_rowsI _)]) rfl (flat_encI _) ?_) | (refine st ?_; try simp only [rows2]) | simp only [rows2])
    all_goals
    refine sY [4] (fun P S K => K ⟨[(4, (S.get 5))], S.hp, S.nx, S.gh⟩) ?_
    all_goals
    refine Tri.ret ?_
    show ResOk _ _ _ _
    exact ResOk.row 2 rfl lelW29 lpuW29 lsrW29
end Go.Proofs.YtfnkciboencifaaDoor
set_option linter.all false
namespace Go.Proofs.YtfnkciboencifaaDoor
open Go Go.RowKit
set_option linter.unusedSimpArgs false
set_option linter.unusedVariables false
def insC (lt : Int → Int → Bool) (A : List Int) (x : Int) : List Int := insAt A (down (fun j => lt x (li A j)) A.length) x
theorem down_congr {p q : Nat → Bool} : ∀ n, (∀ j, j < n → p j = q j) → down p n = down q n
  | 0, _ => rfl
  | n + 1, h => by rw [down, down, h n (Nat.lt_succ_self n), down_congr n fun j hj => h j (Nat.lt_succ_of_lt hj)]
theorem down_le (p : Nat → Bool) : ∀ n, down p n ≤ n
  | 0 => Nat.le_refl _
  | n + 1 => by
    rw [down]; split
    · exact Nat.le_succ_of_le (down_le p n)
    · exact Nat.le_refl _
theorem li_app_left {A B : List Int} {j : Nat} (h : j < A.length) : li (A ++ B) j = li A j := by simp [li, List.getD_eq_getElem?_getD, List.getElem?_append_left h]
theorem li_app_at (A : List Int) (x : Int) (B : List Int) : li (A ++ x :: B) A.length = x := by simp [li, List.getD_eq_getElem?_getD]
theorem insC_len (lt : Int → Int → Bool) (A : List Int) (x : Int) : (insC lt A x).length = A.length + 1 := insAt_len ..
theorem sink_ins (lt : Int → Int → Bool) : ∀ (n : Nat) (A : List Int) (x : Int) (B : List Int), A.length = n → sink lt 0 n (A ++ x :: B) = insC lt A x ++ B
  | 0, A, x, B, h => by
    obtain rfl := List.length_eq_zero_iff.1 h
    simp [sink, insC, insAt]
  | n + 1, A, x, B, h => by
    obtain ⟨A', y, rfl⟩ : ∃ A' y, A = A' ++ [y] := ⟨A.dropLast, A.getLast (by intro e; rw [e] at h; cases h), (List.dropLast_concat_getLast _).symm⟩
    have hn : A'.length = n := by simpa using h
    have e1 : li (A' ++ [y] ++ x :: B) (n + 1) = x := by
      have := li_app_at (A' ++ [y]) x B
      rwa [h] at this
    have e2 : li (A' ++ [y] ++ x :: B) n = y := by
      rw [List.append_assoc, ← hn]; exact li_app_at A' y (x :: B)
    have e3 : li (A' ++ [y]) n = y := by rw [← hn]; exact li_app_at A' y []
    rw [sink, e1, e2]
    unfold insC
    rw [h, down, e3]
    by_cases hc : lt x y = true
    · rw [if_pos ⟨by omega, hc⟩, if_pos hc]
      have e4 : swp (A' ++ [y] ++ x :: B) (n + 1) = A' ++ x :: (y :: B) := by
        unfold swp
        rw [Nat.add_sub_cancel, e1, e2]
        subst hn
        rw [List.append_assoc, List.singleton_append, List.set_append_right _ _ (by omega), show A'.length + 1 - A'.length = 1 by omega, List.set_append_right _ _ (by simp), Nat.sub_self]
        rfl
      rw [e4, sink_ins lt n A' x (y :: B) hn]
      unfold insC
      rw [hn, down_congr n (q := fun j => lt x (li (A' ++ [y]) j)) fun j hj => by show lt x _ = lt x _; rw [li_app_left (by omega)]]
      have hd := down_le (fun j => lt x (li (A' ++ [y]) j)) n
      generalize down (fun j => lt x (li (A' ++ [y]) j)) n = k at hd
      unfold insAt
      rw [List.take_append_of_le_length (by omega), List.drop_append_of_le_length (by omega)]
      simp
    · rw [if_neg (fun g => hc g.2), if_neg hc]
      unfold insAt
      rw [List.take_of_length_le (by omega), List.drop_of_length_le (by omega)]
      simp
theorem isort_ins (lt : Int → Int → Bool) : ∀ (B A : List Int), isort lt 0 B.length A.length (A ++ B) = B.foldl (insC lt) A
  | [], A => by simp [isort]
  | x :: B, A => by
    rw [List.length_cons, isort, sink_ins lt _ A x B rfl, List.foldl_cons, ← isort_ins lt B (insC lt A x), insC_len]
theorem sortedL_fold (c : Int → Int → Int) (l : List Int) : sortedL c l = l.foldl (insC (ltc c)) [] := by
  cases l with
  | nil => rfl
  | cons x l => exact isort_ins (ltc c) l [x]
theorem li_nI (A : List Nat) (j : Nat) : li (nI A) j = ((A.getD j 0 : Nat) : Int) := by
  unfold li nI
  by_cases h : j < A.length
  · simp [List.getD_eq_getElem?_getD, h]
  · simp [List.getD_eq_getElem?_getD, h]
theorem nI_insAt (A : List Nat) (k i : Nat) : nI (insAt A k i) = insAt (nI A) k (i : Int) := insAt_map ..
theorem insC_nI (lt : Int → Int → Bool) (A : List Nat) (i : Nat) : insC lt (nI A) i = nI (insAt A (down (fun j => lt i ((A.getD j 0 : Nat) : Int)) A.length) i) := by
  unfold insC
  rw [nI_insAt, nI_len]
  congr 2
  funext j
  rw [li_nI]
theorem getD_map_key (s : SpecD) (l : List (List ByteArray)) (i : Nat) : (l.map fun p => p.map (keyOf s)).getD i [] = pk s l i := by
  unfold pk
  by_cases h : i < l.length
  · simp [List.getD_eq_getElem?_getD, h]
  · simp [List.getD_eq_getElem?_getD, h]
noncomputable def pathsK (s : SpecD) (l : List (List ByteArray)) : List (List (List Int)) := l.map fun p => p.map (keyOf s)
theorem sortedL_paths (s : SpecD) (l : List (List ByteArray)) : sortedL (keyC2 (pathsK s l)) (nI (List.range l.length)) = nI (pathsS s l) := by
  rw [sortedL_fold]
  unfold pathsS
  have step : ∀ (xs A : List Nat), (nI xs).foldl (insC (ltc (keyC2 (pathsK s l)))) (nI A) = nI (xs.foldl (insI s l) A) := by
    intro xs
    induction xs with
    | nil => intro A; rfl
    | cons i xs ih =>
      intro A
      show (nI xs).foldl _ (insC _ (nI A) i) = _
      rw [insC_nI, ih, List.foldl_cons]
      congr 2
      unfold insI
      congr 2
      funext j
      unfold ltc keyC2 pless pathsK
      simp only [Int.toNat_natCast, getD_map_key]
  exact step _ []
theorem posD_down (x : List Int) (ks : List (List Int)) : ∀ n, posD x ks n = down (fun j => decide (lexi x (ks.getD j []) < 0)) n
  | 0 => rfl
  | n + 1 => by
    rw [posD, down]
    by_cases h : lexi x (ks.getD n []) < 0
    · rw [if_pos h, if_pos (decide_eq_true h), posD_down x ks n]
    · rw [if_neg h, if_neg (by rw [decide_eq_false h]; decide)]
theorem range_ls (l : List ByteArray) : (List.range l.length).map (ls l) = l := by
  apply List.ext_getElem
  · simp
  · intro i h1 h2; simp [ls, List.getD_eq_getElem?_getD, h2]
theorem insAt_mem {α : Type} {l : List α} {k : Nat} {x y : α} (h : y ∈ insAt l k x) : y = x ∨ y ∈ l := by
  unfold insAt at h
  rcases List.mem_append.1 h with h | h
  · exact .inr (List.mem_of_mem_take h)
  · rcases List.mem_cons.1 h with h | h
    · exact .inl h
    · exact .inr (List.mem_of_mem_drop h)
theorem sortedL_sort {s : SpecD} {l : List ByteArray} (hv : validE s = 0) (hx : ¬ ∃ x, x ∈ l ∧ 4096 < x.size) : (sortedL (keyC (l.map (keyOf s))) (nI (List.range l.length))).map (fun i => ls l i.toNat) = sortS s l := by
  rw [sortedL_fold]
  unfold sortS
  have hk : ∀ a, a < l.length → keyR s (ls l a) = keyOf s (ls l a) := fun a ha => (keyE_ok hv fun h => hx ⟨_, ls_mem ha, h⟩).2
  have hg : ∀ a, a < l.length → (l.map (keyOf s)).getD a [] = keyOf s (ls l a) := fun a ha => by simp [ls, List.getD_eq_getElem?_getD, ha]
  have step : ∀ (xs A : List Nat), (∀ x, x ∈ xs → x < l.length) → (∀ x, x ∈ A → x < l.length) → ((nI xs).foldl (insC (ltc (keyC (l.map (keyOf s))))) (nI A)).map (fun i => ls l i.toNat) = (xs.map (ls l)).foldl (insS s) (A.map (ls l)) := by
    intro xs
    induction xs with
    | nil => intro A _ _; simp [nI]
    | cons i xs ih =>
      intro A hxs hA
      have hi := hxs i (List.mem_cons_self ..)
      show ((nI xs).foldl _ (insC _ (nI A) i)).map _ = _
      rw [insC_nI, ih _ (fun x h => hxs x (List.mem_cons_of_mem _ h)) (fun x h => by
        rcases insAt_mem h with rfl | h
        · exact hi
        · exact hA x h), List.map_cons, List.foldl_cons]
      congr 1
      rw [insAt_map]
      unfold insS
      rw [posD_down, List.length_map]
      congr 1
      refine down_congr _ fun j hj => ?_
      have hj2 : A.getD j 0 ∈ A := getDN_mem hj
      have hj3 := hA _ hj2
      have e : ((A.map (ls l)).map (keyR s)).getD j [] = keyR s (ls l (A.getD j 0)) := by simp [List.getD_eq_getElem?_getD, hj]
      unfold ltc keyC
      rw [e, hk _ hj3, hk _ hi, Int.toNat_natCast, Int.toNat_natCast, hg _ hi, hg _ hj3]
  have := step (List.range l.length) [] (fun x h => List.mem_range.1 h) (fun x h => by cases h)
  rw [range_ls] at this
  exact this
end Go.Proofs.YtfnkciboencifaaDoor
