/-
  The clean machine: new objects of a result may be seen as frozen.
-/
import Derived.Test.YtfnkciboencifaaDoorUV15
import Derived.Test.YtfnkciboencifaaDoorUW1
import Derived.Test.YtfnkciboencifaaDoorUW30
set_option linter.all false
namespace Go.Proofs.YtfnkciboencifaaDoor
open Go Go.RowKit
set_option linter.unusedVariables false
theorem ResIs.freeze {F : Nat → Prop} {w w' : World} {r r' : PV} {os : List AO} {v : Value} (h : ResIs F w w' r os v) (k : Nat) (e : sealed (fun i => os[i]?) (fun _ => false) k r = r') (hp : r'.pure = true) : ResIs F w w' r' [] v := by
  obtain ⟨ν, F', hr, ho, hf, hi, hF⟩ := h
  have hlt : ∀ i o, os[i]? = some o → i < os.length := fun i o g => (List.getElem?_eq_some_iff.1 g).1
  have hH : HeapSim ⟨w', fun _ => True⟩ (fun _ => True) (· < os.length) ν F' (fun i => os[i]?) w' :=
    ⟨fun i o g => ⟨hlt i o g, ho i o g⟩, fun i j o o' b g1 g2 g3 g4 => hi i j b (hlt i o g1) (hlt j o' g2) g3 g4, fun i o b g1 g2 => ⟨.inr trivial, (hf i b (hlt i o g1) g2).2⟩, Ext.refl _ _, fun b _ => .inl trivial, fun b g => (hF b g).2⟩
  have hs := Rep.sealed hH (fun _ => false) (fun b => F' b ∨ ∃ i o, os[i]? = some o ∧ ν i = some b) (fun b g => .inl g) (fun i o b _ g1 g2 => .inr ⟨i, o, g1, g2⟩) k r v hr
  rw [e] at hs
  refine ⟨fun _ => none, _, hs.pureAny hp, fun i o g => by simp at g, fun i b g => by simp at g, fun i j b g => by simp at g, fun b hb => ?_⟩
  rcases hb with hb | ⟨i, o, g1, g2⟩
  · exact hF b hb
  · refine ⟨.inr (hf i b (hlt i o g1) g2).1, ?_⟩
    have hst := ho i o g1
    rw [g2] at hst
    obtain ⟨A, e, h1, _⟩ := hst
    rcases Nat.lt_or_ge b w'.heap.size with hh | hh
    · exact hh
    · rw [Array.getElem?_eq_none hh] at h1; cases h1
theorem Pure.freeze {P : Program} {f : FuncId} {args : List PV} {r r' : PV} {os : List AO} (h : Pure P f args r os) (k : Nat) (e : sealed (fun i => os[i]?) (fun _ => false) k r = r') (hp : r'.pure = true) : Pure P f args r' [] :=
  ⟨h.1, fun D μ F w vs h1 h2 h3 => (h.2 D μ F w vs h1 h2 h3).mono fun _ _ ⟨v, g1, g2, g3⟩ => ⟨v, g1, g2, g3.freeze k e hp⟩⟩
end Go.Proofs.YtfnkciboencifaaDoor
set_option linter.all false
namespace Go.Proofs.YtfnkciboencifaaDoor
open Go Go.RowKit
set_option linter.unusedSimpArgs false
set_option linter.unusedVariables false
set_option maxRecDepth 20000
set_option maxHeartbeats 400000
theorem leqW31 {p : Prop} (h : p := by (refine ⟨4, ?_, ?_, rfl, by simp, rfl, fun _ h _ => absurd h (Nat.not_lt_zero _)⟩ <;> (simp only [List.forall_mem_cons]; repeat' (first | refine And.intro ?_ ?_ | (intro p hp; exact absurd hp List.not_mem_nil) | rfl | exact sp (pure_spec _) | exact sp (pure_paths _) | exact sp (pure_rowsI _) | exact sp (pure_rows2 _) | exact (sealed_pure _ _ _ (pure_ints _)).trans (ren_ints _ _).symm | exact (sealed_pure _ _ _ (pure_strs _)).trans (ren_strs _ _).symm | exact sp (by assumption) | (intro o ho; cases ho; refine ⟨by decide, ?_⟩; first | (refine LeqS.row rfl ?_ ?_; (next => (first | rfl | (simp only [List.map_append, List.map_cons, List.map_nil, List.append_nil, List.nil_append, List.append_assoc, List.cons_append, encI, encS, ints, strs]; done) | (simp [encI, encS, ints, strs, rowsI, rows2, nI]; done))); (next => (first | rfl | exact pureL_encI _ | exact pureL_encS _ | exact pureL_ints _ | exact pureL_strs _ | (simp [pureL_append, pureL_encI, pureL_encS, pureL_ints, pureL_strs, pureL, PV.pure, pure_ints, pure_strs, pure_spec, pure_paths, pure_rowsI, pure_rows2, pureL_rowsI]; done))); done) | refine ⟨_, rfl, rfl, ?_⟩) | (simp [St.born, St.known, retV, St.get, St.obj, lk, sealed, PV.ren, renL, rmap, AO.ren, ints, strs, encI, encS, map_sealed_encI, map_sealed_encS, map_sealed_ints, map_sealed_strs, map_ren_encI, map_ren_encS, map_ren_ints, map_ren_strs, renL_encI, renL_encS, renL_ints, renL_strs, ren_spec, ren_paths, rowsI, ren_rows2, take_map_len] <;> omega))))) : p := h
theorem lelW31 {p : Prop} (h : p := by (first | rfl | (simp only [List.map_append, List.map_cons, List.map_nil, List.append_nil, List.nil_append, List.append_assoc, List.cons_append, encI, encS, ints, strs]; done) | (simp [encI, encS, ints, strs, rowsI, rows2, nI]; done))) : p := h
theorem lpuW31 {p : Prop} (h : p := by (first | rfl | exact pureL_encI _ | exact pureL_encS _ | exact pureL_ints _ | exact pureL_strs _ | (simp [pureL_append, pureL_encI, pureL_encS, pureL_ints, pureL_strs, pureL, PV.pure, pure_ints, pure_strs, pure_spec, pure_paths, pure_rowsI, pure_rows2, pureL_rowsI]; done))) : p := h
theorem lsrW31 {p : Prop} (h : p := by (first | rfl | (simp [St.born, St.known, retV, St.get, St.obj, lk, sealed, PV.ren, renL, rmap, AO.ren, ints, strs, encI, encS, map_sealed_encI, map_sealed_encS, map_sealed_ints, map_sealed_strs, map_ren_encI, map_ren_encS, map_ren_ints, map_ren_strs, renL_encI, renL_encS, renL_ints, renL_strs, ren_spec, ren_paths, rowsI, ren_rows2, take_map_len]; done))) : p := h
theorem lstW31 {p : Prop} (h : p := by (first | rfl | (simp [St.born, St.known, retV, St.get, St.obj, lk, sealed, PV.ren, renL, rmap, AO.ren, ints, strs, encI, encS, map_sealed_encI, map_sealed_encS, map_sealed_ints, map_sealed_strs, map_ren_encI, map_ren_encS, map_ren_ints, map_ren_strs, renL_encI, renL_encS, renL_ints, renL_strs, ren_spec, ren_paths, rowsI, ren_rows2, take_map_len, take_map_len, List.take_length]; done))) : p := h
theorem lpvW31 {p : Prop} (h : p := by (first | rfl | (simp [pure_ints, pure_strs, PV.pure, pureL, pureL_encI, pureL_encS, pureL_ints, pureL_strs, pure_spec, pure_paths, pure_rowsI, pure_rows2, pureL_rowsI]; done))) : p := h
theorem keys_short {s : SpecD} {l : List ByteArray} (h : ∀ x, x ∈ l → x.size ≤ 4096) : Short2 (l.map (keyOf s)) := fun x hx => by
  obtain ⟨t, ht, rfl⟩ := List.mem_map.1 hx
  exact keyOf_len s t (h t ht)
theorem lexi_self : ∀ l : List Int, lexi l l = 0
  | [] => rfl
  | x :: l => by
    have : lexi (x :: l) (x :: l) = if x < x then -1 else if x < x then 1 else lexi l l := rfl
    rw [this, if_neg (Int.lt_irrefl _), if_neg (Int.lt_irrefl _), lexi_self l]
theorem lexL_self : ∀ l : List (List Int), lexL l l = 0
  | [] => rfl
  | x :: l => by
    have : lexL (x :: l) (x :: l) = if lexi x x ≠ 0 then lexi x x else lexL l l := rfl
    rw [this, if_neg (by rw [lexi_self]; decide), lexL_self l]
theorem take_key {s : SpecD} {l : List ByteArray} {i : Nat} (h : i < l.length) : (l.take i).map (keyOf s) ++ [keyOf s (ls l i)] = (l.take (i + 1)).map (keyOf s) := by
  rw [← List.take_append_getElem h, List.map_append, ← ls_get h]; rfl
theorem take_fls {l : List ByteArray} {o : List Int} {k : Nat} (h : k < o.length) : (o.take k).map (fun i => ls l i.toNat) ++ [ls l (li o k).toNat] = (o.take (k + 1)).map (fun i => ls l i.toNat) := by
  rw [← List.take_append_getElem h, List.map_append]
  simp [li, List.getD_eq_getElem?_getD, h]
theorem insC_mem {lt : Int → Int → Bool} {A : List Int} {x y : Int} (h : y ∈ insC lt A x) : y = x ∨ y ∈ A := insAt_mem h
theorem foldl_insC_mem {lt : Int → Int → Bool} : ∀ (xs A : List Int) {y : Int}, y ∈ xs.foldl (insC lt) A → y ∈ xs ∨ y ∈ A
  | [], _, _, h => .inr h
  | x :: xs, A, y, h => by
    rcases foldl_insC_mem xs (insC lt A x) h with h | h
    · exact .inl (List.mem_cons_of_mem _ h)
    · rcases insC_mem h with rfl | h
      · exact .inl (List.mem_cons_self ..)
      · exact .inr h
theorem sortedL_mem {c : Int → Int → Int} {l : List Int} {y : Int} (h : y ∈ sortedL c l) : y ∈ l := by
  rw [sortedL_fold] at h
  rcases foldl_insC_mem l [] h with h | h
  · exact h
  · cases h
theorem sorted_at {c : Int → Int → Int} {n k : Nat} (h : k < (sortedL c (nI (List.range n))).length) : 0 ≤ li (sortedL c (nI (List.range n))) k ∧ li (sortedL c (nI (List.range n))) k < n := by
  obtain ⟨a, ha, e⟩ := mem_nI (sortedL_mem (li_mem h))
  have := List.mem_range.1 ha
  omega
theorem cSort_pure (s : SpecD) (l : List ByteArray) (hs : Tame s) (hl : l.length ≤ 1000000) (hlz : ∀ x, x ∈ l → x.size ≤ 9223372036854775807) (hq : l.length < 20 ∨ ∀ x, x ∈ l → ∀ y, y ∈ l → x = y) :
    Pure Tryd.prog 23 [encSpec s, strs l] (.tup [strs (sortR s l), encI (sortE s l)]) [] := by
  refine Pure.intro (ts := [4, 5]) Tryd.func23 (by kernel_rfl) rfl rfl rfl (Nat.le_of_ble_eq_true rfl) ?_ ?_
  · simp [encI, encB, encS, encSpec, PV.pure, pureL, pure_strs]
  refine sZ [1, 2] (fun P S K => XvBox S.nx (S.get 0) (fun r0 e0 => K ⟨[(1, S.get 1), (2, r0)], (Eff.hp e0 S.nx S.hp), (S.nx + e0.add.length), S.gh⟩)) fun K hK => ?_
  repeat' (first | (refine hK _ ?_; clear hK K) | ((first | refine xG_intro (fun hg => ?_) (fun hg => ?_) | refine fun (hg : (_ : Prop)) => ?_) <;> ((try simp only [BQ] at hg); try (exfalso; omega))) | refine And.intro ?_ ?_ | exact cl | exact flat_encI _ | refine one_take ?_ _ | refine one_drop ?_ _ | (refine st ?_; try simp only [encSpec]) | simp only [encSpec])
  all_goals
  refine Tri.seq ?_
  refine sZ [1, 2, 6] (fun P S K => XvLoad P 33 (M S.hp S.nx) (S.get 2) (fun r0 _ => XvFnIV P (M S.hp S.nx) (.fn 13 []) [r0] (fun r1 e1 => K ⟨[(1, S.get 1), (2, S.get 2), (6, r1)], (Eff.hp e1 S.nx S.hp), (S.nx + e1.add.length), S.gh⟩))) fun K hK => ?_
  repeat' (first | (refine hK _ ?_; clear hK K) | ((first | refine xG_intro (fun hg => ?_) (fun hg => ?_) | refine fun (hg : (_ : Prop)) => ?_) <;> ((try simp only [BQ] at hg); try (exfalso; omega))) | refine And.intro ?_ ?_ | exact cl | exact flat_encI _ | refine one_take ?_ _ | refine one_drop ?_ _ | refine .inl ⟨_, _, cValid_pure s hs, ?_⟩ | refine ⟨_, _, cValid_pure s hs, ?_⟩ | (refine st ?_; try simp only [encSpec]) | simp only [encSpec])
  all_goals
  refine sZ [1, 2, 6, 17] (fun P S K => XvBinOV P .neq 30 (.const (.int .i64 0)) (S.get 6) (.atom (.int .i64 0)) (fun r1 _ => K ⟨[(1, S.get 1), (2, S.get 2), (6, S.get 6), (17, r1)], S.hp, S.nx, S.gh⟩)) fun K hK => ?_
  repeat' (first | (refine hK _ ?_; clear hK K) | ((first | refine xG_intro (fun hg => ?_) (fun hg => ?_) | refine fun (hg : (_ : Prop)) => ?_) <;> ((try simp only [BQ] at hg); try (exfalso; omega))) | refine And.intro ?_ ?_ | exact cl | exact flat_encI _ | refine one_take ?_ _ | refine one_drop ?_ _ | (refine st ?_; try simp only [encSpec]) | simp only [encSpec])
  all_goals
  refine Tri.cond rfl (fun h17 => ?_) (fun h17 => ?_)
  ·try (cases h17; done)
   all_goals (try simp only [CQ] at h17)
   all_goals
   refine sZ [4, 5] (fun P S K => K ⟨[(4, (.atom (.slice none 0 0))), (5, (S.get 6))], S.hp, S.nx, S.gh⟩) fun K hK => ?_
   repeat' (first | (refine hK _ ?_; clear hK K) | ((first | refine xG_intro (fun hg => ?_) (fun hg => ?_) | refine fun (hg : (_ : Prop)) => ?_) <;> ((try simp only [BQ] at hg); try (exfalso; omega))) | refine And.intro ?_ ?_ | exact cl | exact flat_encI _ | refine one_take ?_ _ | refine one_drop ?_ _ | (refine st ?_; try simp only [encSpec]) | simp only [encSpec])
   refine Tri.asSl 4 1 rfl ?_
   all_goals
   refine Tri.ret ?_
   show ResOk _ _ _ _
   rw [(sortE_bad h17).1, (sortE_bad h17).2]
   exact ResOk.frz 5 lstW31 lpvW31
  ·try (cases h17; done)
   all_goals (try simp only [CQ] at h17)
   all_goals
   refine Tri.skip ?_
   refine Tri.seq ?_
   have hv : validE s = 0 := by omega
   refine sZ [1, 2, 21] (fun P S K => XvLen P 25 (S.get 1) (fun r1 _ => XvBinOV P .gtr 3 (.const (.int .i64 1000)) r1 (.atom (.int .i64 1000)) (fun r2 _ => K ⟨[(1, S.get 1), (2, S.get 2), (21, r2)], S.hp, S.nx, S.gh⟩))) fun K hK => ?_
   repeat' (first | (refine hK _ ?_; clear hK K) | ((first | refine xG_intro (fun hg => ?_) (fun hg => ?_) | refine fun (hg : (_ : Prop)) => ?_) <;> ((try simp only [BQ] at hg); try (exfalso; omega))) | refine And.intro ?_ ?_ | exact cl | exact flat_encI _ | refine one_take ?_ _ | refine one_drop ?_ _ | (refine st ?_; try simp only [encSpec]) | simp only [encSpec])
   all_goals
   refine Tri.cond rfl (fun h21 => ?_) (fun h21 => ?_)
   ·try (cases h21; done)
    all_goals (try simp only [CQ] at h21)
    all_goals
    refine sZ [4, 5] (fun P S K => K ⟨[(4, (.atom (.slice none 0 0))), (5, (.atom (.int .i64 4)))], S.hp, S.nx, S.gh⟩) fun K hK => ?_
    repeat' (first | (refine hK _ ?_; clear hK K) | ((first | refine xG_intro (fun hg => ?_) (fun hg => ?_) | refine fun (hg : (_ : Prop)) => ?_) <;> ((try simp only [BQ] at hg); try (exfalso; omega))) | refine And.intro ?_ ?_ | exact cl | exact flat_encI _ | refine one_take ?_ _ | refine one_drop ?_ _ | (refine st ?_; try simp only [encSpec]) | simp only [encSpec])
    refine Tri.asSl 4 1 rfl ?_
    all_goals
    refine Tri.ret ?_
    show ResOk _ _ _ _
    rw [(sortE_many hv (by omega)).1, (sortE_many hv (by omega)).2]
    exact ResOk.frz 5 lstW31 lpvW31
   ·try (cases h21; done)
    all_goals (try simp only [CQ] at h21)
    all_goals
    refine Tri.skip ?_
    refine Tri.seq ?_
    refine sZ [1, 2, 7] (fun P S K => XvLoad P 33 (M S.hp S.nx) (S.get 2) (fun r0 _ => XvFnIV P (M S.hp S.nx) (.fn 45 []) [r0, (S.get 1)] (fun r2 e2 => K ⟨[(1, S.get 1), (2, S.get 2), (7, r2)], (Eff.hp e2 S.nx S.hp), (S.nx + e2.add.length), S.gh⟩))) fun K hK => ?_
    repeat' (first | (refine hK _ ?_; clear hK K) | ((first | refine xG_intro (fun hg => ?_) (fun hg => ?_) | refine fun (hg : (_ : Prop)) => ?_) <;> ((try simp only [BQ] at hg); try (exfalso; omega))) | refine And.intro ?_ ?_ | exact cl | exact flat_encI _ | refine one_take ?_ _ | refine one_drop ?_ _ | refine .inl ⟨_, _, cExam_pure s l hs hlz, ?_⟩ | refine ⟨_, _, cExam_pure s l hs hlz, ?_⟩ | (refine st ?_; try simp only [encSpec]) | simp only [encSpec])
    all_goals
    refine sZ [1, 2, 7, 26] (fun P S K => XvBinOV P .neq 30 (.const (.int .i64 0)) (S.get 7) (.atom (.int .i64 0)) (fun r1 _ => K ⟨[(1, S.get 1), (2, S.get 2), (7, S.get 7), (26, r1)], S.hp, S.nx, S.gh⟩)) fun K hK => ?_
    repeat' (first | (refine hK _ ?_; clear hK K) | ((first | refine xG_intro (fun hg => ?_) (fun hg => ?_) | refine fun (hg : (_ : Prop)) => ?_) <;> ((try simp only [BQ] at hg); try (exfalso; omega))) | refine And.intro ?_ ?_ | exact cl | exact flat_encI _ | refine one_take ?_ _ | refine one_drop ?_ _ | (refine st ?_; try simp only [encSpec]) | simp only [encSpec])
    all_goals
    refine Tri.cond rfl (fun h26 => ?_) (fun h26 => ?_)
    ·try (cases h26; done)
     all_goals (try simp only [CQ] at h26)
     all_goals
     refine sZ [4, 5] (fun P S K => K ⟨[(4, (.atom (.slice none 0 0))), (5, (S.get 7))], S.hp, S.nx, S.gh⟩) fun K hK => ?_
     repeat' (first | (refine hK _ ?_; clear hK K) | ((first | refine xG_intro (fun hg => ?_) (fun hg => ?_) | refine fun (hg : (_ : Prop)) => ?_) <;> ((try simp only [BQ] at hg); try (exfalso; omega))) | refine And.intro ?_ ?_ | exact cl | exact flat_encI _ | refine one_take ?_ _ | refine one_drop ?_ _ | (refine st ?_; try simp only [encSpec]) | simp only [encSpec])
     refine Tri.asSl 4 1 rfl ?_
     all_goals
     refine Tri.ret ?_
     show ResOk _ _ _ _
     have hx : ∃ x, x ∈ l ∧ 4096 < x.size := Classical.byContradiction fun hx => h26 (examE_ok hv hx)
     rw [(sortE_long hv (by omega) hx).1, (sortE_long hv (by omega) hx).2, examE_long hv hx]
     exact ResOk.frz 5 lstW31 lpvW31
    ·try (cases h26; done)
     all_goals (try simp only [CQ] at h26)
     all_goals
     refine Tri.skip ?_
     have hx : ¬ ∃ x, x ∈ l ∧ 4096 < x.size := fun hx => by rw [examE_long hv hx] at h26; omega
     have hsm : ∀ x, x ∈ l → x.size ≤ 4096 := fun x h => Nat.le_of_not_lt fun g => hx ⟨x, h, g⟩
     have hks := keys_short (s := s) hsm
     have hkl : (l.map (keyOf s)).length ≤ 1000000 := by rw [List.length_map]; exact hl
     have hkq : (l.map (keyOf s)).length < 20 ∨ ∀ x, x ∈ l.map (keyOf s) → ∀ y, y ∈ l.map (keyOf s) → ¬ lexi x y < 0 := hq.imp (fun h => by rw [List.length_map]; exact h) fun h x h1 y h2 => by
       obtain ⟨x', g1, rfl⟩ := List.mem_map.1 h1
       obtain ⟨y', g2, rfl⟩ := List.mem_map.1 h2
       rw [h x' g1 y' g2, lexi_self]; decide
     refine sZ [1, 2, 8] (fun P S K => K ⟨[(1, S.get 1), (2, S.get 2), (8, (.atom (.slice none 0 0)))], S.hp, S.nx, S.gh⟩) fun K hK => ?_
     repeat' (first | (refine hK _ ?_; clear hK K) | ((first | refine xG_intro (fun hg => ?_) (fun hg => ?_) | refine fun (hg : (_ : Prop)) => ?_) <;> ((try simp only [BQ] at hg); try (exfalso; omega))) | refine And.intro ?_ ?_ | exact cl | exact flat_encI _ | refine one_take ?_ _ | refine one_drop ?_ _ | (refine st ?_; try simp only [encSpec]) | simp only [encSpec])
     refine Tri.born 8 1 rfl ?_
     all_goals
     refine Tri.seq ?_
     refine sZ [1, 2, 8, 28, 29, 30] (fun P S K => XvLen P 25 (S.get 1) (fun r1 _ => K ⟨[(1, S.get 1), (2, S.get 2), (8, S.get 8), (28, (S.get 1)), (29, r1), (30, (.atom (.int .i64 0)))], S.hp, S.nx, S.gh⟩)) fun K hK => ?_
     repeat' (first | (refine hK _ ?_; clear hK K) | ((first | refine xG_intro (fun hg => ?_) (fun hg => ?_) | refine fun (hg : (_ : Prop)) => ?_) <;> ((try simp only [BQ] at hg); try (exfalso; omega))) | refine And.intro ?_ ?_ | exact cl | exact flat_encI _ | refine one_take ?_ _ | refine one_drop ?_ _ | (refine st ?_; try simp only [encSpec]) | simp only [encSpec])
     all_goals
     refine Tri.block ?_
     refine Tri.loop (α := (ks : List (List Int)) ×' (i : Nat) ×' (i ≤ l.length ∧ ks = (l.take i).map (keyOf s))) (fun z => (fun (ks : List (List Int)) (i : Nat) => (⟨[(1, strs l), (2, .ptr 0 4 0 0), (8, .ob 1 1 0 ks.length), (28, strs l), (29, encI l.length), (30, encI i)], [(0, some ⟨4, [encSpec s]⟩), (1, some ⟨1, ks.map ints⟩)], 2, []⟩ : St)) z.1 z.2.1) (fun z => (fun (ks : List (List Int)) (i : Nat) => l.length - i) z.1 z.2.1) ⟨[], 0, ⟨Nat.zero_le _, rfl⟩⟩ [0, 1] ?_ ?_
     ·exact leqW31
     ·rintro ⟨ks, i, ⟨hi, hks1⟩⟩
      have hksl : ks.length ≤ 1000000 := by rw [hks1]; simp; omega
      refine sZ [1, 2, 8, 28, 29, 30, 31] (fun P S K => XvBinOV P .lss 3 (.tmp 29) (S.get 30) (S.get 29) (fun r0 _ => K ⟨[(1, S.get 1), (2, S.get 2), (8, S.get 8), (28, S.get 28), (29, S.get 29), (30, S.get 30), (31, r0)], S.hp, S.nx, S.gh⟩)) fun K hK => ?_
      repeat' (first | (refine hK _ ?_; clear hK K) | ((first | refine xG_intro (fun hg => ?_) (fun hg => ?_) | refine fun (hg : (_ : Prop)) => ?_) <;> ((try simp only [BQ] at hg); try (exfalso; omega))) | refine And.intro ?_ ?_ | exact cl | exact flat_encI _ | refine one_take ?_ _ | refine one_drop ?_ _ | (refine st ?_; try simp only [encSpec]) | simp only [encSpec])
      all_goals
      refine Tri.seq ?_
      refine Tri.cond rfl (fun h31 => ?_) (fun h31 => ?_)
      ·try (cases h31; done)
       all_goals (try simp only [CQ] at h31)
       all_goals
       refine Tri.skip ?_
       refine Tri.seq ?_
       refine Tri.block ?_
       have hil : i < l.length := by omega
       have hsz := hsm _ (ls_mem hil)
       refine sZ [1, 2, 8, 10, 28, 29, 30] (fun P S K => XvIndexAddr P 25 (S.get 28) (S.get 30) (fun r0 _ => XvLoad P 9 (M S.hp S.nx) r0 (fun r1 _ => K ⟨[(1, S.get 1), (2, S.get 2), (8, S.get 8), (10, r1), (28, S.get 28), (29, S.get 29), (30, S.get 30)], S.hp, S.nx, S.gh⟩))) fun K hK => ?_
       repeat' (first | (refine hK _ ?_; clear hK K) | ((first | refine xG_intro (fun hg => ?_) (fun hg => ?_) | refine fun (hg : (_ : Prop)) => ?_) <;> ((try simp only [BQ] at hg); try (exfalso; omega))) | refine And.intro ?_ ?_ | exact cl | exact flat_encI _ | refine one_take ?_ _ | refine one_drop ?_ _ | (refine st ?_; try simp only [encSpec, getD_encS hil]) | simp only [encSpec, getD_encS hil])
       all_goals
       refine rZ [1, 2, 8, 28, 29, 30] (fun P S K => XvLoad P 33 (M S.hp S.nx) (S.get 2) (fun r1 _ => XvFnIV P (M S.hp S.nx) (.fn 46 []) [r1, (S.get 10)] (fun r3 e3 => XvBuildS P 84 1 (S.nx + e3.add.length) [(0, r3)] (fun r4 e4 => (84 = 84 ∧ XvAppend P 84 (M (Eff.hp e4 (S.nx + e3.add.length) (Eff.hp e3 S.nx S.hp)) ((S.nx + e3.add.length) + e4.add.length)) (S.get 8) r4 (fun r5 e5 => K ⟨[(1, S.get 1), (2, S.get 2), (8, r5), (28, S.get 28), (29, S.get 29), (30, S.get 30)], (Eff.hp e5 ((S.nx + e3.add.length) + e4.add.length) (Eff.hp e4 (S.nx + e3.add.length) (Eff.hp e3 S.nx S.hp))), (((S.nx + e3.add.length) + e4.add.length) + e5.add.length), S.gh⟩)))))) fun K hK => ?_
       repeat' (first | (refine hK _ ?_; clear hK K) | ((first | refine xG_intro (fun hg => ?_) (fun hg => ?_) | refine fun (hg : (_ : Prop)) => ?_) <;> ((try simp only [BQ] at hg); try (exfalso; omega))) | refine And.intro ?_ ?_ | exact cl | exact flat_encI _ | refine one_take ?_ _ | refine one_drop ?_ _ | refine .inl ⟨_, _, cKeyIn_pure s (ls l i) hs hv hsz, ?_⟩ | refine ⟨_, _, cKeyIn_pure s (ls l i) hs hv hsz, ?_⟩ | (refine st ?_; try simp only [encSpec]) | simp only [encSpec])
       all_goals
       refine rZ [1, 2, 8, 28, 29, 30] (fun P S K => XvBinOV P .add 3 (.const (.int .i64 1)) (S.get 30) (.atom (.int .i64 1)) (fun r0 _ => K ⟨[(1, S.get 1), (2, S.get 2), (8, S.get 8), (28, S.get 28), (29, S.get 29), (30, r0)], S.hp, S.nx, S.gh⟩)) fun K hK => ?_
       repeat' (first | (refine hK _ ?_; clear hK K) | ((first | refine xG_intro (fun hg => ?_) (fun hg => ?_) | refine fun (hg : (_ : Prop)) => ?_) <;> ((try simp only [BQ] at hg); try (exfalso; omega))) | refine And.intro ?_ ?_ | exact cl | exact flat_encI _ | refine one_take ?_ _ | refine one_drop ?_ _ | (refine st ?_; try simp only [encSpec]) | simp only [encSpec])
       all_goals try simp (disch := omega) only [wrap_id, wrap8_id]
       all_goals
       refine ⟨⟨ks ++ [keyOf s (ls l i)], i + 1, by omega, by rw [hks1, take_key hil]⟩, [0, 3], by dsimp only; omega, ?_⟩
       exact leqW31
      ·try (cases h31; done)
       all_goals (try simp only [CQ] at h31)
       all_goals
       refine Tri.exit ?_
       obtain rfl : i = l.length := by omega
       rw [List.take_length] at hks1
       have hz : ks.length = l.length := by rw [hks1]; exact List.length_map _
       have hol : (sortedL (keyC ks) (nI (List.range ks.length))).length = l.length := by rw [sortedL_len, nI_len, List.length_range, hz]
       have hof := sortedL_sort hv hx
       rw [← hks1, ← hz] at hof
       rw [← hks1] at hks hkq hkl
       have hoa := fun k h => sorted_at (c := keyC ks) (n := ks.length) (k := k) h
       refine sZ [1, 8, 11] (fun P S K => K ⟨[(1, S.get 1), (8, S.get 8), (11, (.atom (.slice none 0 0)))], S.hp, S.nx, S.gh⟩) fun K hK => ?_
       repeat' (first | (refine hK _ ?_; clear hK K) | ((first | refine xG_intro (fun hg => ?_) (fun hg => ?_) | refine fun (hg : (_ : Prop)) => ?_) <;> ((try simp only [BQ] at hg); try (exfalso; omega))) | refine And.intro ?_ ?_ | exact cl | exact flat_encI _ | refine one_take ?_ _ | refine one_drop ?_ _ | (refine st ?_; try simp only [encSpec]) | simp only [encSpec])
       refine Tri.born 11 1 rfl ?_
       all_goals
       refine Tri.seq ?_
       refine sZ [1, 11, 42, 43, 44] (fun P S K => XvFnIV P (M S.hp S.nx) (.fn 51 []) [(S.get 8), (.fn 48 [])] (fun r1 e1 => XvLen P 22 r1 (fun r2 _ => K ⟨[(1, S.get 1), (11, S.get 11), (42, r1), (43, r2), (44, (.atom (.int .i64 0)))], (Eff.hp e1 S.nx S.hp), (S.nx + e1.add.length), S.gh⟩))) fun K hK => ?_
       repeat' (first | (refine hK _ ?_; clear hK K) | ((first | refine xG_intro (fun hg => ?_) (fun hg => ?_) | refine fun (hg : (_ : Prop)) => ?_) <;> ((try simp only [BQ] at hg); try (exfalso; omega))) | refine And.intro ?_ ?_ | exact cl | exact flat_encI _ | refine one_take ?_ _ | refine one_drop ?_ _ | refine .inl ⟨_, _, orderI_pure ks hkl hks hkq, ?_⟩ | refine ⟨_, _, orderI_pure ks hkl hks hkq, ?_⟩ | (refine st ?_; try simp only [encSpec, map_sealed_ints, take_map_len]) | simp only [encSpec, map_sealed_ints, take_map_len])
       generalize sortedL (keyC ks) (nI (List.range ks.length)) = o at hol hof hoa ⊢
       all_goals
       refine Tri.block ?_
       refine Tri.loop (α := (out : List ByteArray) ×' (k : Nat) ×' (k ≤ o.length ∧ out = (o.take k).map (fun i => ls l i.toNat))) (fun z => (fun (out : List ByteArray) (k : Nat) => (⟨[(1, strs l), (11, .ob 0 1 0 out.length), (42, .ob 1 1 0 o.length), (43, encI o.length), (44, encI k)], [(0, some ⟨1, out.map encS⟩), (1, some ⟨1, o.map encI⟩)], 2, []⟩ : St)) z.1 z.2.1) (fun z => (fun (out : List ByteArray) (k : Nat) => o.length - k) z.1 z.2.1) ⟨[], 0, ⟨Nat.zero_le _, rfl⟩⟩ [2, 3] ?_ ?_
       ·exact leqW31
       ·rintro ⟨out, k, ⟨hk, hout⟩⟩
        have houtl : out.length ≤ 1000000 := by rw [hout]; simp; omega
        refine sZ [1, 11, 42, 43, 44, 45] (fun P S K => XvBinOV P .lss 3 (.tmp 43) (S.get 44) (S.get 43) (fun r0 _ => K ⟨[(1, S.get 1), (11, S.get 11), (42, S.get 42), (43, S.get 43), (44, S.get 44), (45, r0)], S.hp, S.nx, S.gh⟩)) fun K hK => ?_
        repeat' (first | (refine hK _ ?_; clear hK K) | ((first | refine xG_intro (fun hg => ?_) (fun hg => ?_) | refine fun (hg : (_ : Prop)) => ?_) <;> ((try simp only [BQ] at hg); try (exfalso; omega))) | refine And.intro ?_ ?_ | exact cl | exact flat_encI _ | refine one_take ?_ _ | refine one_drop ?_ _ | (refine st ?_; try simp only [encSpec]) | simp only [encSpec])
        all_goals
        refine Tri.seq ?_
        refine Tri.cond rfl (fun h45 => ?_) (fun h45 => ?_)
        ·try (cases h45; done)
         all_goals (try simp only [CQ] at h45)
         all_goals
         refine Tri.skip ?_
         refine Tri.seq ?_
         refine Tri.block ?_
         have hko : k < o.length := by omega
         have ho2 := hoa k hko
         refine sZ [1, 11, 13, 42, 43, 44] (fun P S K => XvIndexAddr P 22 (S.get 42) (S.get 44) (fun r0 _ => XvLoad P 3 (M S.hp S.nx) r0 (fun r1 _ => K ⟨[(1, S.get 1), (11, S.get 11), (13, r1), (42, S.get 42), (43, S.get 43), (44, S.get 44)], S.hp, S.nx, S.gh⟩))) fun K hK => ?_
         repeat' (first | (refine hK _ ?_; clear hK K) | ((first | refine xG_intro (fun hg => ?_) (fun hg => ?_) | refine fun (hg : (_ : Prop)) => ?_) <;> ((try simp only [BQ] at hg); try (exfalso; omega))) | refine And.intro ?_ ?_ | exact cl | exact flat_encI _ | refine one_take ?_ _ | refine one_drop ?_ _ | (refine st ?_; try simp only [encSpec, getD_encI hko]) | simp only [encSpec, getD_encI hko])
         all_goals
         have hnl : (li o k).toNat < l.length := by omega
         refine rZ [1, 11, 42, 43, 44] (fun P S K => XvIndexAddr P 25 (S.get 1) (S.get 13) (fun r3 _ => XvLoad P 9 (M S.hp S.nx) r3 (fun r4 _ => XvBuildS P 25 1 S.nx [(0, r4)] (fun r5 e5 => (25 = 25 ∧ XvAppend P 25 (M (Eff.hp e5 S.nx S.hp) (S.nx + e5.add.length)) (S.get 11) r5 (fun r6 e6 => K ⟨[(1, S.get 1), (11, r6), (42, S.get 42), (43, S.get 43), (44, S.get 44)], (Eff.hp e6 (S.nx + e5.add.length) (Eff.hp e5 S.nx S.hp)), ((S.nx + e5.add.length) + e6.add.length), S.gh⟩)))))) fun K hK => ?_
         repeat' (first | (refine hK _ ?_; clear hK K) | ((first | refine xG_intro (fun hg => ?_) (fun hg => ?_) | refine fun (hg : (_ : Prop)) => ?_) <;> ((try simp only [BQ] at hg); try (exfalso; omega))) | refine And.intro ?_ ?_ | exact cl | exact flat_encI _ | refine one_take ?_ _ | refine one_drop ?_ _ | (refine st ?_; try simp only [encSpec, getD_encS hnl]) | simp only [encSpec, getD_encS hnl])
         all_goals
         refine rZ [1, 11, 42, 43, 44] (fun P S K => XvBinOV P .add 3 (.const (.int .i64 1)) (S.get 44) (.atom (.int .i64 1)) (fun r0 _ => K ⟨[(1, S.get 1), (11, S.get 11), (42, S.get 42), (43, S.get 43), (44, r0)], S.hp, S.nx, S.gh⟩)) fun K hK => ?_
         repeat' (first | (refine hK _ ?_; clear hK K) | ((first | refine xG_intro (fun hg => ?_) (fun hg => ?_) | refine fun (hg : (_ : Prop)) => ?_) <;> ((try simp only [BQ] at hg); try (exfalso; omega))) | refine And.intro ?_ ?_ | exact cl | exact flat_encI _ | refine one_take ?_ _ | refine one_drop ?_ _ | (refine st ?_; try simp only [encSpec]) | simp only [encSpec])
         all_goals try simp (disch := omega) only [wrap_id, wrap8_id]
         all_goals
         refine ⟨⟨out ++ [ls l (li o k).toNat], k + 1, by omega, by rw [hout, take_fls hko]⟩, [3, 1], by dsimp only; omega, ?_⟩
         exact leqW31
        ·try (cases h45; done)
         all_goals (try simp only [CQ] at h45)
         all_goals
         refine Tri.exit ?_
         obtain rfl : k = o.length := by omega
         rw [List.take_length, hof] at hout
         subst hout
         refine sZ [4, 5] (fun P S K => K ⟨[(4, (S.get 11)), (5, (.atom (.int .i64 0)))], S.hp, S.nx, S.gh⟩) fun K hK => ?_
         repeat' (first | (refine hK _ ?_; clear hK K) | ((first | refine xG_intro (fun hg => ?_) (fun hg => ?_) | refine fun (hg : (_ : Prop)) => ?_) <;> ((try simp only [BQ] at hg); try (exfalso; omega))) | refine And.intro ?_ ?_ | exact cl | exact flat_encI _ | refine one_take ?_ _ | refine one_drop ?_ _ | (refine st ?_; try simp only [encSpec]) | simp only [encSpec])
         all_goals
         refine Tri.ret ?_
         show ResOk _ _ _ _
         rw [(sortE_ok hv (by omega) hx).1, (sortE_ok hv (by omega) hx).2]
         exact ResOk.frz 5 lstW31 lpvW31
theorem take_pathsK {s : SpecD} {l : List (List ByteArray)} {i : Nat} (h : i < l.length) : (pathsK s l).take i ++ [pk s l i] = (pathsK s l).take (i + 1) := by
  have hi : i < (pathsK s l).length := by simpa [pathsK] using h
  rw [← List.take_append_getElem hi]
  congr 2
  have e : (pathsK s l)[i] = (l[i]).map (keyOf s) := List.getElem_map ..
  rw [e]
  unfold pk
  simp [List.getD_eq_getElem?_getD, h]
theorem pathsK_len (s : SpecD) (l : List (List ByteArray)) : (pathsK s l).length = l.length := by simp [pathsK]
theorem cPaths_own (s : SpecD) (l : List (List ByteArray)) (hs : Tame s) (hl : l.length ≤ 1000000) (hll : ∀ p, p ∈ l → p.length ≤ 1000000) (hlz : ∀ p, p ∈ l → ∀ x, x ∈ p → x.size ≤ 9223372036854775807) (hq : l.length < 20 ∨ ∀ x, x ∈ l → ∀ y, y ∈ l → x = y) :
    Pure Tryd.prog 25 [encSpec s, paths l] (if pathsE s l = 0 then .tup [.ob 0 1 0 l.length, encI 0] else .tup [.sl 1 [], encI (pathsE s l)]) (if pathsE s l = 0 then [⟨1, (pathsR s l).map encI⟩] else []) := by
  refine Pure.intro (ts := [4, 5]) Tryd.func25 (by kernel_rfl) rfl rfl rfl (Nat.le_of_ble_eq_true rfl) ?_ ?_
  · simp [encI, encB, encS, encSpec, PV.pure, pureL, pure_strs, pure_paths]
  refine sZ [1, 2] (fun P S K => XvBox S.nx (S.get 0) (fun r0 e0 => K ⟨[(1, S.get 1), (2, r0)], (Eff.hp e0 S.nx S.hp), (S.nx + e0.add.length), S.gh⟩)) fun K hK => ?_
  repeat' (first | (refine hK _ ?_; clear hK K) | ((first | refine xG_intro (fun hg => ?_) (fun hg => ?_) | refine fun (hg : (_ : Prop)) => ?_) <;> ((try simp only [BQ] at hg); try (exfalso; omega))) | refine And.intro ?_ ?_ | exact cl | exact one_rowsI _ | exact flat_encI _ | refine one_take ?_ _ | refine one_drop ?_ _ | (refine st ?_; try simp only [encSpec, paths]) | simp only [encSpec, paths])
  all_goals
  refine Tri.seq ?_
  refine sZ [1, 2, 6] (fun P S K => XvLoad P 33 (M S.hp S.nx) (S.get 2) (fun r0 _ => XvFnIV P (M S.hp S.nx) (.fn 13 []) [r0] (fun r1 e1 => K ⟨[(1, S.get 1), (2, S.get 2), (6, r1)], (Eff.hp e1 S.nx S.hp), (S.nx + e1.add.length), S.gh⟩))) fun K hK => ?_
  repeat' (first | (refine hK _ ?_; clear hK K) | ((first | refine xG_intro (fun hg => ?_) (fun hg => ?_) | refine fun (hg : (_ : Prop)) => ?_) <;> ((try simp only [BQ] at hg); try (exfalso; omega))) | refine And.intro ?_ ?_ | exact cl | exact one_rowsI _ | exact flat_encI _ | refine one_take ?_ _ | refine one_drop ?_ _ | refine .inl ⟨_, _, cValid_pure s hs, ?_⟩ | refine ⟨_, _, cValid_pure s hs, ?_⟩ | (refine st ?_; try simp only [encSpec, paths]) | simp only [encSpec, paths])
  all_goals
  refine sZ [1, 2, 6, 17] (fun P S K => XvBinOV P .neq 30 (.const (.int .i64 0)) (S.get 6) (.atom (.int .i64 0)) (fun r1 _ => K ⟨[(1, S.get 1), (2, S.get 2), (6, S.get 6), (17, r1)], S.hp, S.nx, S.gh⟩)) fun K hK => ?_
  repeat' (first | (refine hK _ ?_; clear hK K) | ((first | refine xG_intro (fun hg => ?_) (fun hg => ?_) | refine fun (hg : (_ : Prop)) => ?_) <;> ((try simp only [BQ] at hg); try (exfalso; omega))) | refine And.intro ?_ ?_ | exact cl | exact one_rowsI _ | exact flat_encI _ | refine one_take ?_ _ | refine one_drop ?_ _ | (refine st ?_; try simp only [encSpec, paths]) | simp only [encSpec, paths])
  all_goals
  refine Tri.cond rfl (fun h17 => ?_) (fun h17 => ?_)
  ·try (cases h17; done)
   all_goals (try simp only [CQ] at h17)
   all_goals
   refine sZ [4, 5] (fun P S K => K ⟨[(4, (.atom (.slice none 0 0))), (5, (S.get 6))], S.hp, S.nx, S.gh⟩) fun K hK => ?_
   repeat' (first | (refine hK _ ?_; clear hK K) | ((first | refine xG_intro (fun hg => ?_) (fun hg => ?_) | refine fun (hg : (_ : Prop)) => ?_) <;> ((try simp only [BQ] at hg); try (exfalso; omega))) | refine And.intro ?_ ?_ | exact cl | exact one_rowsI _ | exact flat_encI _ | refine one_take ?_ _ | refine one_drop ?_ _ | (refine st ?_; try simp only [encSpec, paths]) | simp only [encSpec, paths])
   refine Tri.asSl 4 1 rfl ?_
   all_goals
   refine Tri.ret ?_
   show ResOk _ _ _ _
   rw [(pathsE_bad h17).1, if_neg h17, if_neg h17]
   exact ResOk.frz 5 lstW31 lpvW31
  ·try (cases h17; done)
   all_goals (try simp only [CQ] at h17)
   all_goals
   refine Tri.skip ?_
   refine Tri.seq ?_
   have hv : validE s = 0 := by omega
   refine sZ [1, 2, 21] (fun P S K => XvLen P 47 (S.get 1) (fun r1 _ => XvBinOV P .gtr 3 (.const (.int .i64 1000)) r1 (.atom (.int .i64 1000)) (fun r2 _ => K ⟨[(1, S.get 1), (2, S.get 2), (21, r2)], S.hp, S.nx, S.gh⟩))) fun K hK => ?_
   repeat' (first | (refine hK _ ?_; clear hK K) | ((first | refine xG_intro (fun hg => ?_) (fun hg => ?_) | refine fun (hg : (_ : Prop)) => ?_) <;> ((try simp only [BQ] at hg); try (exfalso; omega))) | refine And.intro ?_ ?_ | exact cl | exact one_rowsI _ | exact flat_encI _ | refine one_take ?_ _ | refine one_drop ?_ _ | (refine st ?_; try simp only [encSpec, paths]) | simp only [encSpec, paths])
   all_goals
   refine Tri.cond rfl (fun h21 => ?_) (fun h21 => ?_)
   ·try (cases h21; done)
    all_goals (try simp only [CQ] at h21)
    all_goals
    refine sZ [4, 5] (fun P S K => K ⟨[(4, (.atom (.slice none 0 0))), (5, (.atom (.int .i64 4)))], S.hp, S.nx, S.gh⟩) fun K hK => ?_
    repeat' (first | (refine hK _ ?_; clear hK K) | ((first | refine xG_intro (fun hg => ?_) (fun hg => ?_) | refine fun (hg : (_ : Prop)) => ?_) <;> ((try simp only [BQ] at hg); try (exfalso; omega))) | refine And.intro ?_ ?_ | exact cl | exact one_rowsI _ | exact flat_encI _ | refine one_take ?_ _ | refine one_drop ?_ _ | (refine st ?_; try simp only [encSpec, paths]) | simp only [encSpec, paths])
    refine Tri.asSl 4 1 rfl ?_
    all_goals
    refine Tri.ret ?_
    show ResOk _ _ _ _
    rw [(pathsE_many hv (by omega)).1, if_neg (by decide), if_neg (by decide)]
    exact ResOk.frz 5 lstW31 lpvW31
   ·try (cases h21; done)
    all_goals (try simp only [CQ] at h21)
    all_goals
    refine Tri.skip ?_
    refine sZ [1, 2, 7] (fun P S K => K ⟨[(1, S.get 1), (2, S.get 2), (7, (.atom (.slice none 0 0)))], S.hp, S.nx, S.gh⟩) fun K hK => ?_
    repeat' (first | (refine hK _ ?_; clear hK K) | ((first | refine xG_intro (fun hg => ?_) (fun hg => ?_) | refine fun (hg : (_ : Prop)) => ?_) <;> ((try simp only [BQ] at hg); try (exfalso; omega))) | refine And.intro ?_ ?_ | exact cl | exact one_rowsI _ | exact flat_encI _ | refine one_take ?_ _ | refine one_drop ?_ _ | (refine st ?_; try simp only [encSpec, paths]) | simp only [encSpec, paths])
    refine Tri.born 7 1 rfl ?_
    all_goals
    refine Tri.seq ?_
    refine sZ [2, 7, 22, 23, 24] (fun P S K => XvLen P 47 (S.get 1) (fun r1 _ => K ⟨[(2, S.get 2), (7, S.get 7), (22, (S.get 1)), (23, r1), (24, (.atom (.int .i64 0)))], S.hp, S.nx, S.gh⟩)) fun K hK => ?_
    repeat' (first | (refine hK _ ?_; clear hK K) | ((first | refine xG_intro (fun hg => ?_) (fun hg => ?_) | refine fun (hg : (_ : Prop)) => ?_) <;> ((try simp only [BQ] at hg); try (exfalso; omega))) | refine And.intro ?_ ?_ | exact cl | exact one_rowsI _ | exact flat_encI _ | refine one_take ?_ _ | refine one_drop ?_ _ | (refine st ?_; try simp only [encSpec, paths]) | simp only [encSpec, paths])
    all_goals
    refine Tri.block ?_
    refine Tri.loop (α := (ks2 : List (List (List Int))) ×' (i : Nat) ×' (i ≤ l.length ∧ ks2 = (pathsK s l).take i ∧ ∀ j, j < i → ∀ x, x ∈ l.getD j [] → x.size ≤ 4096)) (fun z => (fun (ks2 : List (List (List Int))) (i : Nat) => (⟨[(2, .ptr 0 4 0 0), (7, .ob 1 1 0 ks2.length), (22, paths l), (23, encI l.length), (24, encI i)], [(0, some ⟨4, [encSpec s]⟩), (1, some ⟨1, ks2.map rowsI⟩)], 2, []⟩ : St)) z.1 z.2.1) (fun z => (fun (ks2 : List (List (List Int))) (i : Nat) => l.length - i) z.1 z.2.1) ⟨[], 0, ⟨Nat.zero_le _, rfl, fun j hj => absurd hj (Nat.not_lt_zero _)⟩⟩ [0, 1] ?_ ?_
    ·exact leqW31
    ·rintro ⟨ks2, i, ⟨hi, hks1, hsm⟩⟩
     have hksl : ks2.length ≤ 1000000 := by rw [hks1, List.length_take, pathsK_len]; omega
     refine sZ [2, 7, 22, 23, 24, 25] (fun P S K => XvBinOV P .lss 3 (.tmp 23) (S.get 24) (S.get 23) (fun r0 _ => K ⟨[(2, S.get 2), (7, S.get 7), (22, S.get 22), (23, S.get 23), (24, S.get 24), (25, r0)], S.hp, S.nx, S.gh⟩)) fun K hK => ?_
     repeat' (first | (refine hK _ ?_; clear hK K) | ((first | refine xG_intro (fun hg => ?_) (fun hg => ?_) | refine fun (hg : (_ : Prop)) => ?_) <;> ((try simp only [BQ] at hg); try (exfalso; omega))) | refine And.intro ?_ ?_ | exact cl | exact one_rowsI _ | exact flat_encI _ | refine one_take ?_ _ | refine one_drop ?_ _ | (refine st ?_; try simp only [encSpec, paths]) | simp only [encSpec, paths])
     all_goals
     refine Tri.seq ?_
     refine Tri.cond rfl (fun h25 => ?_) (fun h25 => ?_)
     ·try (cases h25; done)
      all_goals (try simp only [CQ] at h25)
      all_goals
      refine Tri.skip ?_
      refine Tri.seq ?_
      refine Tri.block ?_
      have hil : i < l.length := by omega
      have hpl := hll _ (getD_mem hil)
      refine sZ [2, 7, 9, 22, 23, 24] (fun P S K => XvIndexAddr P 47 (S.get 22) (S.get 24) (fun r0 _ => XvLoad P 25 (M S.hp S.nx) r0 (fun r1 _ => K ⟨[(2, S.get 2), (7, S.get 7), (9, r1), (22, S.get 22), (23, S.get 23), (24, S.get 24)], S.hp, S.nx, S.gh⟩))) fun K hK => ?_
      repeat' (first | (refine hK _ ?_; clear hK K) | ((first | refine xG_intro (fun hg => ?_) (fun hg => ?_) | refine fun (hg : (_ : Prop)) => ?_) <;> ((try simp only [BQ] at hg); try (exfalso; omega))) | refine And.intro ?_ ?_ | exact cl | exact one_rowsI _ | exact flat_encI _ | refine one_take ?_ _ | refine one_drop ?_ _ | (refine st ?_; try simp only [encSpec, paths, getD_strs hil]) | simp only [encSpec, paths, getD_strs hil])
      all_goals
      refine Tri.seq ?_
      refine sZ [2, 7, 9, 10, 22, 23, 24] (fun P S K => XvLoad P 33 (M S.hp S.nx) (S.get 2) (fun r0 _ => XvFnIV P (M S.hp S.nx) (.fn 45 []) [r0, (S.get 9)] (fun r2 e2 => K ⟨[(2, S.get 2), (7, S.get 7), (9, S.get 9), (10, r2), (22, S.get 22), (23, S.get 23), (24, S.get 24)], (Eff.hp e2 S.nx S.hp), (S.nx + e2.add.length), S.gh⟩))) fun K hK => ?_
      repeat' (first | (refine hK _ ?_; clear hK K) | ((first | refine xG_intro (fun hg => ?_) (fun hg => ?_) | refine fun (hg : (_ : Prop)) => ?_) <;> ((try simp only [BQ] at hg); try (exfalso; omega))) | refine And.intro ?_ ?_ | exact cl | exact one_rowsI _ | exact flat_encI _ | refine one_take ?_ _ | refine one_drop ?_ _ | refine .inl ⟨_, _, cExam_pure s (l.getD i []) hs (hlz _ (getD_mem hil)), ?_⟩ | refine ⟨_, _, cExam_pure s (l.getD i []) hs (hlz _ (getD_mem hil)), ?_⟩ | (refine st ?_; try simp only [encSpec, paths]) | simp only [encSpec, paths])
      all_goals
      refine sZ [2, 7, 9, 10, 22, 23, 24, 32] (fun P S K => XvBinOV P .neq 30 (.const (.int .i64 0)) (S.get 10) (.atom (.int .i64 0)) (fun r1 _ => K ⟨[(2, S.get 2), (7, S.get 7), (9, S.get 9), (10, S.get 10), (22, S.get 22), (23, S.get 23), (24, S.get 24), (32, r1)], S.hp, S.nx, S.gh⟩)) fun K hK => ?_
      repeat' (first | (refine hK _ ?_; clear hK K) | ((first | refine xG_intro (fun hg => ?_) (fun hg => ?_) | refine fun (hg : (_ : Prop)) => ?_) <;> ((try simp only [BQ] at hg); try (exfalso; omega))) | refine And.intro ?_ ?_ | exact cl | exact one_rowsI _ | exact flat_encI _ | refine one_take ?_ _ | refine one_drop ?_ _ | (refine st ?_; try simp only [encSpec, paths]) | simp only [encSpec, paths])
      all_goals
      refine Tri.cond rfl (fun h32 => ?_) (fun h32 => ?_)
      ·try (cases h32; done)
       all_goals (try simp only [CQ] at h32)
       all_goals
       refine sZ [4, 5] (fun P S K => K ⟨[(4, (.atom (.slice none 0 0))), (5, (S.get 10))], S.hp, S.nx, S.gh⟩) fun K hK => ?_
       repeat' (first | (refine hK _ ?_; clear hK K) | ((first | refine xG_intro (fun hg => ?_) (fun hg => ?_) | refine fun (hg : (_ : Prop)) => ?_) <;> ((try simp only [BQ] at hg); try (exfalso; omega))) | refine And.intro ?_ ?_ | exact cl | exact one_rowsI _ | exact flat_encI _ | refine one_take ?_ _ | refine one_drop ?_ _ | (refine st ?_; try simp only [encSpec, paths]) | simp only [encSpec, paths])
       refine Tri.asSl 4 1 rfl ?_
       all_goals
       refine Tri.ret ?_
       show ResOk _ _ _ _
       have hx : ∃ x, x ∈ l.getD i [] ∧ 4096 < x.size := Classical.byContradiction fun hx => h32 (examE_ok hv hx)
       have hx2 : ∃ p, p ∈ l ∧ ∃ x, x ∈ p ∧ 4096 < x.size := ⟨_, getD_mem hil, hx⟩
       rw [(pathsE_long hv (by omega) hx2).1, if_neg (by decide), if_neg (by decide), examE_long hv hx]
       exact ResOk.frz 5 lstW31 lpvW31
      ·try (cases h32; done)
       all_goals (try simp only [CQ] at h32)
       all_goals
       refine Tri.skip ?_
       have hx : ∀ x, x ∈ l.getD i [] → x.size ≤ 4096 := fun x h => Nat.le_of_not_lt fun g => by rw [examE_long hv ⟨x, h, g⟩] at h32; omega
       refine sZ [2, 7, 9, 11, 22, 23, 24] (fun P S K => K ⟨[(2, S.get 2), (7, S.get 7), (9, S.get 9), (11, (.atom (.slice none 0 0))), (22, S.get 22), (23, S.get 23), (24, S.get 24)], S.hp, S.nx, S.gh⟩) fun K hK => ?_
       repeat' (first | (refine hK _ ?_; clear hK K) | ((first | refine xG_intro (fun hg => ?_) (fun hg => ?_) | refine fun (hg : (_ : Prop)) => ?_) <;> ((try simp only [BQ] at hg); try (exfalso; omega))) | refine And.intro ?_ ?_ | exact cl | exact one_rowsI _ | exact flat_encI _ | refine one_take ?_ _ | refine one_drop ?_ _ | (refine st ?_; try simp only [encSpec, paths]) | simp only [encSpec, paths])
       refine Tri.born 11 1 rfl ?_
       all_goals
       refine Tri.cut (α := Unit) (fun ⟨⟩ => ⟨[(2, .ptr 0 4 0 0), (7, .ob 1 1 0 ks2.length), (11, rowsI (pk s l i)), (22, paths l), (23, encI l.length), (24, encI i)], [(0, some ⟨4, [encSpec s]⟩), (1, some ⟨1, ks2.map rowsI⟩)], 2, []⟩) ?_ ?_
       ·skip
        refine sZ [2, 7, 11, 22, 23, 24, 34, 35, 36] (fun P S K => XvLen P 25 (S.get 9) (fun r1 _ => K ⟨[(2, S.get 2), (7, S.get 7), (11, S.get 11), (22, S.get 22), (23, S.get 23), (24, S.get 24), (34, (S.get 9)), (35, r1), (36, (.atom (.int .i64 0)))], S.hp, S.nx, S.gh⟩)) fun K hK => ?_
        repeat' (first | (refine hK _ ?_; clear hK K) | ((first | refine xG_intro (fun hg => ?_) (fun hg => ?_) | refine fun (hg : (_ : Prop)) => ?_) <;> ((try simp only [BQ] at hg); try (exfalso; omega))) | refine And.intro ?_ ?_ | exact cl | exact one_rowsI _ | exact flat_encI _ | refine one_take ?_ _ | refine one_drop ?_ _ | (refine st ?_; try simp only [encSpec, paths]) | simp only [encSpec, paths])
        all_goals
        refine Tri.block ?_
        refine Tri.loop (α := (kk : List (List Int)) ×' (j : Nat) ×' (j ≤ (l.getD i []).length ∧ kk = ((l.getD i []).take j).map (keyOf s))) (fun z => (fun (kk : List (List Int)) (j : Nat) => (⟨[(2, .ptr 0 4 0 0), (7, .ob 1 1 0 ks2.length), (11, .ob 2 1 0 kk.length), (22, paths l), (23, encI l.length), (24, encI i), (34, strs (l.getD i [])), (35, encI (l.getD i []).length), (36, encI j)], [(0, some ⟨4, [encSpec s]⟩), (1, some ⟨1, ks2.map rowsI⟩), (2, some ⟨1, kk.map ints⟩)], 3, []⟩ : St)) z.1 z.2.1) (fun z => (fun (kk : List (List Int)) (j : Nat) => (l.getD i []).length - j) z.1 z.2.1) ⟨[], 0, ⟨Nat.zero_le _, rfl⟩⟩ [0, 1, 2] ?_ ?_
        ·exact leqW31
        ·rintro ⟨kk, j, ⟨hj, hkk⟩⟩
         have hkkl : kk.length ≤ 1000000 := by rw [hkk]; simp; omega
         refine sZ [2, 7, 11, 22, 23, 24, 34, 35, 36, 37] (fun P S K => XvBinOV P .lss 3 (.tmp 35) (S.get 36) (S.get 35) (fun r0 _ => K ⟨[(2, S.get 2), (7, S.get 7), (11, S.get 11), (22, S.get 22), (23, S.get 23), (24, S.get 24), (34, S.get 34), (35, S.get 35), (36, S.get 36), (37, r0)], S.hp, S.nx, S.gh⟩)) fun K hK => ?_
         repeat' (first | (refine hK _ ?_; clear hK K) | ((first | refine xG_intro (fun hg => ?_) (fun hg => ?_) | refine fun (hg : (_ : Prop)) => ?_) <;> ((try simp only [BQ] at hg); try (exfalso; omega))) | refine And.intro ?_ ?_ | exact cl | exact one_rowsI _ | exact flat_encI _ | refine one_take ?_ _ | refine one_drop ?_ _ | (refine st ?_; try simp only [encSpec, paths]) | simp only [encSpec, paths])
         all_goals
         refine Tri.seq ?_
         refine Tri.cond rfl (fun h37 => ?_) (fun h37 => ?_)
         ·try (cases h37; done)
          all_goals (try simp only [CQ] at h37)
          all_goals
          refine Tri.skip ?_
          refine Tri.seq ?_
          refine Tri.block ?_
          have hjl : j < (l.getD i []).length := by omega
          have hsz := hx _ (ls_mem hjl)
          refine sZ [2, 7, 11, 13, 22, 23, 24, 34, 35, 36] (fun P S K => XvIndexAddr P 25 (S.get 34) (S.get 36) (fun r0 _ => XvLoad P 9 (M S.hp S.nx) r0 (fun r1 _ => K ⟨[(2, S.get 2), (7, S.get 7), (11, S.get 11), (13, r1), (22, S.get 22), (23, S.get 23), (24, S.get 24), (34, S.get 34), (35, S.get 35), (36, S.get 36)], S.hp, S.nx, S.gh⟩))) fun K hK => ?_
          repeat' (first | (refine hK _ ?_; clear hK K) | ((first | refine xG_intro (fun hg => ?_) (fun hg => ?_) | refine fun (hg : (_ : Prop)) => ?_) <;> ((try simp only [BQ] at hg); try (exfalso; omega))) | refine And.intro ?_ ?_ | exact cl | exact one_rowsI _ | exact flat_encI _ | refine one_take ?_ _ | refine one_drop ?_ _ | (refine st ?_; try simp only [encSpec, paths, getD_encS hjl]) | simp only [encSpec, paths, getD_encS hjl])
          all_goals
          refine rZ [2, 7, 11, 22, 23, 24, 34, 35, 36] (fun P S K => XvLoad P 33 (M S.hp S.nx) (S.get 2) (fun r1 _ => XvFnIV P (M S.hp S.nx) (.fn 46 []) [r1, (S.get 13)] (fun r3 e3 => XvBuildS P 84 1 (S.nx + e3.add.length) [(0, r3)] (fun r4 e4 => (84 = 84 ∧ XvAppend P 84 (M (Eff.hp e4 (S.nx + e3.add.length) (Eff.hp e3 S.nx S.hp)) ((S.nx + e3.add.length) + e4.add.length)) (S.get 11) r4 (fun r5 e5 => K ⟨[(2, S.get 2), (7, S.get 7), (11, r5), (22, S.get 22), (23, S.get 23), (24, S.get 24), (34, S.get 34), (35, S.get 35), (36, S.get 36)], (Eff.hp e5 ((S.nx + e3.add.length) + e4.add.length) (Eff.hp e4 (S.nx + e3.add.length) (Eff.hp e3 S.nx S.hp))), (((S.nx + e3.add.length) + e4.add.length) + e5.add.length), S.gh⟩)))))) fun K hK => ?_
          repeat' (first | (refine hK _ ?_; clear hK K) | ((first | refine xG_intro (fun hg => ?_) (fun hg => ?_) | refine fun (hg : (_ : Prop)) => ?_) <;> ((try simp only [BQ] at hg); try (exfalso; omega))) | refine And.intro ?_ ?_ | exact cl | exact one_rowsI _ | exact flat_encI _ | refine one_take ?_ _ | refine one_drop ?_ _ | refine .inl ⟨_, _, cKeyIn_pure s (ls (l.getD i []) j) hs hv hsz, ?_⟩ | refine ⟨_, _, cKeyIn_pure s (ls (l.getD i []) j) hs hv hsz, ?_⟩ | (refine st ?_; try simp only [encSpec, paths]) | simp only [encSpec, paths])
          all_goals
          refine rZ [2, 7, 11, 22, 23, 24, 34, 35, 36] (fun P S K => XvBinOV P .add 3 (.const (.int .i64 1)) (S.get 36) (.atom (.int .i64 1)) (fun r0 _ => K ⟨[(2, S.get 2), (7, S.get 7), (11, S.get 11), (22, S.get 22), (23, S.get 23), (24, S.get 24), (34, S.get 34), (35, S.get 35), (36, r0)], S.hp, S.nx, S.gh⟩)) fun K hK => ?_
          repeat' (first | (refine hK _ ?_; clear hK K) | ((first | refine xG_intro (fun hg => ?_) (fun hg => ?_) | refine fun (hg : (_ : Prop)) => ?_) <;> ((try simp only [BQ] at hg); try (exfalso; omega))) | refine And.intro ?_ ?_ | exact cl | exact one_rowsI _ | exact flat_encI _ | refine one_take ?_ _ | refine one_drop ?_ _ | (refine st ?_; try simp only [encSpec, paths]) | simp only [encSpec, paths])
          all_goals try simp (disch := omega) only [wrap_id, wrap8_id]
          all_goals
          refine ⟨⟨kk ++ [keyOf s (ls (l.getD i []) j)], j + 1, by omega, by rw [hkk, take_key hjl]⟩, [0, 1, 4], by dsimp only; omega, ?_⟩
          exact leqW31
         ·try (cases h37; done)
          all_goals (try simp only [CQ] at h37)
          all_goals
          refine Tri.exit ?_
          (obtain rfl : j = (l.getD i []).length := by omega); rw [List.take_length] at hkk; (obtain rfl : kk = pk s l i := hkk)
          refine ⟨(), [0, 1], ?_⟩
          exact leqW31
       ·rintro ⟨⟩
        refine rZ [2, 7, 22, 23, 24] (fun P S K => XvBuildS P 86 1 S.nx [(0, (S.get 11))] (fun r2 e2 => (86 = 86 ∧ XvAppend P 86 (M (Eff.hp e2 S.nx S.hp) (S.nx + e2.add.length)) (S.get 7) r2 (fun r3 e3 => K ⟨[(2, S.get 2), (7, r3), (22, S.get 22), (23, S.get 23), (24, S.get 24)], (Eff.hp e3 (S.nx + e2.add.length) (Eff.hp e2 S.nx S.hp)), ((S.nx + e2.add.length) + e3.add.length), S.gh⟩)))) fun K hK => ?_
        repeat' (first | (refine hK _ ?_; clear hK K) | ((first | refine xG_intro (fun hg => ?_) (fun hg => ?_) | refine fun (hg : (_ : Prop)) => ?_) <;> ((try simp only [BQ] at hg); try (exfalso; omega))) | refine And.intro ?_ ?_ | exact cl | exact one_rowsI _ | exact flat_encI _ | refine one_take ?_ _ | refine one_drop ?_ _ | (refine st ?_; try simp only [encSpec, paths]) | simp only [encSpec, paths])
        all_goals
        refine rZ [2, 7, 22, 23, 24] (fun P S K => XvBinOV P .add 3 (.const (.int .i64 1)) (S.get 24) (.atom (.int .i64 1)) (fun r0 _ => K ⟨[(2, S.get 2), (7, S.get 7), (22, S.get 22), (23, S.get 23), (24, r0)], S.hp, S.nx, S.gh⟩)) fun K hK => ?_
        repeat' (first | (refine hK _ ?_; clear hK K) | ((first | refine xG_intro (fun hg => ?_) (fun hg => ?_) | refine fun (hg : (_ : Prop)) => ?_) <;> ((try simp only [BQ] at hg); try (exfalso; omega))) | refine And.intro ?_ ?_ | exact cl | exact one_rowsI _ | exact flat_encI _ | refine one_take ?_ _ | refine one_drop ?_ _ | (refine st ?_; try simp only [encSpec, paths]) | simp only [encSpec, paths])
        all_goals try simp (disch := omega) only [wrap_id, wrap8_id]
        all_goals
        refine ⟨⟨ks2 ++ [pk s l i], i + 1, by omega, by rw [hks1, take_pathsK hil], fun j hj x hxx => ?_⟩, [0, 3], by dsimp only; omega, ?_⟩
        · rcases Nat.lt_succ_iff_lt_or_eq.1 hj with hj | rfl
          · exact hsm j hj x hxx
          · exact hx x hxx
        · exact leqW31
     ·try (cases h25; done)
      all_goals (try simp only [CQ] at h25)
      all_goals
      refine Tri.exit ?_
      obtain rfl : i = l.length := by omega
      rw [List.take_of_length_le (by rw [pathsK_len]; exact Nat.le_refl _)] at hks1
      have hnx : ¬ ∃ p, p ∈ l ∧ ∃ x, x ∈ p ∧ 4096 < x.size := fun ⟨p, hp, x, hxp, h⟩ => by
        obtain ⟨n, hn, rfl⟩ := List.getElem_of_mem hp
        have := hsm n hn x (by simpa [List.getD_eq_getElem?_getD, hn] using hxp)
        omega
      have hz : ks2.length = l.length := by rw [hks1, pathsK_len]
      have hof : sortedL (keyC2 ks2) (nI (List.range ks2.length)) = nI (pathsS s l) := by rw [hz, hks1]; exact sortedL_paths s l
      have hpl : ks2.length = (nI (pathsS s l)).length := by rw [← hof, sortedL_len, nI_len, List.length_range]
      have hkl : ks2.length ≤ 1000000 := hksl
      have hks : ∀ k, k ∈ ks2 → k.length ≤ 1000000000 ∧ Short2 k := fun k hk => by
        rw [hks1] at hk
        obtain ⟨p, hp, rfl⟩ := List.mem_map.1 hk
        exact ⟨by rw [List.length_map]; have := hll p hp; omega, keys_short fun x hxp => Nat.le_of_not_lt fun h => hnx ⟨p, hp, x, hxp, h⟩⟩
      have hkq : ks2.length < 20 ∨ ∀ x, x ∈ ks2 → ∀ y, y ∈ ks2 → ¬ lexL x y < 0 := hq.imp (fun h => by omega) fun h x h1 y h2 => by
        rw [hks1] at h1 h2
        obtain ⟨x', g1, rfl⟩ := List.mem_map.1 h1
        obtain ⟨y', g2, rfl⟩ := List.mem_map.1 h2
        rw [h x' g1 y' g2, lexL_self]; decide
      refine sZ [4, 5] (fun P S K => XvFnIV P (M S.hp S.nx) (.fn 52 []) [(S.get 7), (.fn 53 [])] (fun r1 e1 => K ⟨[(4, r1), (5, (.atom (.int .i64 0)))], (Eff.hp e1 S.nx S.hp), (S.nx + e1.add.length), S.gh⟩)) fun K hK => ?_
      repeat' (first | (refine hK _ ?_; clear hK K) | ((first | refine xG_intro (fun hg => ?_) (fun hg => ?_) | refine fun (hg : (_ : Prop)) => ?_) <;> ((try simp only [BQ] at hg); try (exfalso; omega))) | refine And.intro ?_ ?_ | exact cl | exact one_rowsI _ | exact flat_encI _ | refine one_take ?_ _ | refine one_drop ?_ _ | refine .inl ⟨_, _, orderL_pure ks2 hkl hks hkq, ?_⟩ | refine ⟨_, _, orderL_pure ks2 hkl hks hkq, ?_⟩ | (refine st ?_; try simp only [encSpec, paths, take_map_len, map_sealed_rowsI]) | simp only [encSpec, paths, take_map_len, map_sealed_rowsI])
      rw [hof, hz]
      all_goals
      refine Tri.ret ?_
      show ResOk _ _ _ _
      rw [(pathsE_ok hv (by omega) hnx).1, (pathsE_ok hv (by omega) hnx).2, if_pos rfl, if_pos rfl]
      exact ResOk.row 2 rfl lelW31 lpuW31 lsrW31
theorem pathsR_len {s : SpecD} {l : List (List ByteArray)} (h : pathsE s l = 0) : (pathsR s l).length = l.length := by
  unfold pathsR
  rw [if_pos h, ← sortedL_paths, sortedL_len, nI_len, List.length_range]
theorem cPaths_pure (s : SpecD) (l : List (List ByteArray)) (hs : Tame s) (hl : l.length ≤ 1000000) (hll : ∀ p, p ∈ l → p.length ≤ 1000000) (hlz : ∀ p, p ∈ l → ∀ x, x ∈ p → x.size ≤ 9223372036854775807) (hq : l.length < 20 ∨ ∀ x, x ∈ l → ∀ y, y ∈ l → x = y) :
    Pure Tryd.prog 25 [encSpec s, paths l] (.tup [ints (pathsR s l), encI (pathsE s l)]) [] := by
  have h := cPaths_own s l hs hl hll hlz hq
  by_cases he : pathsE s l = 0
  · rw [if_pos he, if_pos he] at h
    rw [he]
    refine h.freeze 3 ?_ (by simp [PV.pure, pureL, encI, pure_ints])
    have hn := pathsR_len he
    simp only [sealed, List.map_cons, List.map_nil, List.getElem?_cons_zero, List.length_map, hn, Nat.zero_add, Nat.le_refl, and_self, if_true, List.drop_zero]
    rw [List.take_of_length_le (by rw [List.length_map, hn]; exact Nat.le_refl _), map_sealed_encI]
    rfl
  · rw [if_neg he, if_neg he] at h
    have e : pathsR s l = [] := if_neg he
    rw [e]
    exact h
end Go.Proofs.YtfnkciboencifaaDoor
