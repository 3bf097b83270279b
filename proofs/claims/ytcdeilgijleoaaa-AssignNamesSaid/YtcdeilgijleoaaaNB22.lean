/-
  Walks: Spoilt of the reference model.
-/
import Derived.Test.YtcdeilgijleoaaaNA1
import Derived.Test.YtcdeilgijleoaaaNB16
set_option linter.all false
namespace Go.Proofs.Ytcdeilgijleoaaa
open Go Go.RowKit
set_option maxRecDepth 20000
set_option maxHeartbeats 1000000
theorem set_encI (l : List Int) (i : Nat) (v : Int) : (l.map encI).set i (PV.atom (.int .i64 v)) = (l.set i v).map encI := by rw [List.map_set]; rfl
set_option maxRecDepth 100000
def encN (n : Nat) : PV := .atom (.int .u64 (n : Int))
def nats (l : List Nat) : PV := .sl 1 (l.map encN)
theorem pureL_encN (l : List Nat) : pureL (l.map encN) = true := pureL_map encN (fun _ => rfl) l
theorem pure_nats (l : List Nat) : (nats l).pure = true := pureL_encN l
theorem ren_nats (ρ : Nat → Nat) (l : List Nat) : (nats l).ren ρ = nats l := ren_pure ρ _ (pure_nats l)
theorem renL_encN (ρ : Nat → Nat) (l : List Nat) : renL ρ (l.map encN) = l.map encN := renL_pure ρ _ (pureL_encN l)
theorem map_sealed_encN (H : Nat → Option AO) (keep : Nat → Bool) (n : Nat) (l : List Nat) : (l.map encN).map (sealed H keep n) = l.map encN := map_sealed_pure H keep n (pureL_encN l)
theorem map_ren_encN (ρ : Nat → Nat) (l : List Nat) : (l.map encN).map (PV.ren ρ) = l.map encN := map_ren_pure ρ (pureL_encN l)
theorem getD_encN {l : List Nat} {k : Nat} (h : k < l.length) : (l.map encN).getD k .junk = encN (l.getD k 0) := by
  simp [List.getD_eq_getElem?_getD, h]
theorem flat_encN (l : List Nat) : (l.map encN).all PV.flatB = true := by rw [List.all_map]; exact List.all_eq_true.2 fun _ _ => rfl
theorem run_ones : (List.range 64).all (fun a => sameR (gRun Try.prog tbl0 [] 20 48 [encN a] []) (encI (popc a), [], [])) = true := by kernel_rfl
theorem run_list : ((List.range 64).drop 1).all (fun a => sameR (gRun Try.prog tbl0 [] 20 77 [encN a] []) (.ob 0 1 0 (membL a 6).length, [], [⟨1, (membL a 6).map encI⟩])) = true := by kernel_rfl
theorem ones_pure {a : Nat} (h : a < 64) : Pure Try.prog 48 [encN a] (encI (popc a)) [] :=
  run_pure (x := (encI (popc a), [], [])) tbl0_ok mixed (List.all_eq_true.1 run_ones a (List.mem_range.2 h)) rfl
theorem mem_range1 {a n : Nat} (h0 : 0 < a) (h : a < n) : a ∈ (List.range n).drop 1 := by
  obtain ⟨m, rfl⟩ : ∃ m, n = m + 1 := ⟨n - 1, by omega⟩
  rw [List.range_succ_eq_map]
  exact List.mem_map.2 ⟨a - 1, List.mem_range.2 (by omega), by omega⟩
theorem list_own {a : Nat} (h0 : 0 < a) (h : a < 64) : Pure Try.prog 77 [encN a] (.ob 0 1 0 (membL a 6).length) [⟨1, (membL a 6).map encI⟩] :=
  run_pure (x := (.ob 0 1 0 (membL a 6).length, [], [⟨1, (membL a 6).map encI⟩])) tbl0_ok mixed (List.all_eq_true.1 run_list a (mem_range1 h0 h)) rfl
theorem list_pure {a : Nat} (h0 : 0 < a) (h : a < 64) : Pure Try.prog 77 [encN a] (ints (membL a 6)) [] :=
  (list_own h0 h).freeze 4 (seal_row rfl rfl (by simp) (pureL_encI _)) (pure_ints _)
theorem leqB20 {p : Prop} (h : p := by (refine ⟨4, ?_, ?_, rfl, by simp, rfl, fun _ h _ => absurd h (Nat.not_lt_zero _)⟩ <;> (simp only [List.forall_mem_cons]; repeat' (first | refine And.intro ?_ ?_ | (intro p hp; exact absurd hp List.not_mem_nil) | rfl | exact sp (pure_case _) | exact sp (pure_pairs _) | exact sp (pure_nats _) | exact (sealed_pure _ _ _ (pure_ints _)).trans (ren_ints _ _).symm | exact (sealed_pure _ _ _ (pure_strs _)).trans (ren_strs _ _).symm | exact sp (by assumption) | (intro o ho; cases ho; refine ⟨by decide, ?_⟩; first | (refine LeqS.row rfl ?_ ?_; (next => (first | rfl | (simp only [List.map_append, List.map_cons, List.map_nil, List.append_nil, List.nil_append, List.append_assoc, List.cons_append, encI, encS, ints, strs]; done) | (simp [encI, encS, ints, strs, encP, encN, List.map_set]; done))); (next => (first | rfl | exact pureL_encI _ | exact pureL_encS _ | exact pureL_ints _ | exact pureL_strs _ | exact pureL_encP _ | exact pureL_encN _ | (simp [pureL_append, pureL_encI, pureL_encS, pureL_ints, pureL_strs, pureL, PV.pure, pure_ints, pure_strs, pure_case, pureL_encP, pure_pairs, pureL_encN, pure_nats]; done))); done) | refine ⟨_, rfl, rfl, ?_⟩) | (simp [St.born, St.known, retV, St.get, St.obj, lk, sealed, PV.ren, renL, rmap, AO.ren, ints, strs, encI, encS, map_sealed_encI, map_sealed_encS, map_sealed_ints, map_sealed_strs, map_ren_encI, map_ren_encS, map_ren_ints, map_ren_strs, renL_encI, renL_encS, renL_ints, renL_strs, ren_case, encC, pairs, renL_encP, map_sealed_encP, map_ren_encP, encP, take_map_len, renL_encN, map_sealed_encN, map_ren_encN] <;> omega)))); first | done | fail) : p := h
theorem lsrB20 {p : Prop} (h : p := by (first | rfl | (simp [St.born, St.known, retV, St.get, St.obj, lk, sealed, PV.ren, renL, rmap, AO.ren, ints, strs, encI, encS, map_sealed_encI, map_sealed_encS, map_sealed_ints, map_sealed_strs, map_ren_encI, map_ren_encS, map_ren_ints, map_ren_strs, renL_encI, renL_encS, renL_ints, renL_strs, ren_case, encC, pairs, renL_encP, map_sealed_encP, map_ren_encP, encP, take_map_len, renL_encN, map_sealed_encN, map_ren_encN]; done)); first | done | fail) : p := h
theorem lpvB20 {p : Prop} (h : p := by (first | rfl | (simp [pure_ints, pure_strs, PV.pure, pureL, pureL_encI, pureL_encS, pureL_ints, pureL_strs, pure_case, pureL_encP, pure_pairs, pureL_encN, pure_nats]; done)); first | done | fail) : p := h
def firstB {α : Type} (g : α → Bool) (d : α) (l : List α) : Nat → Int
  | 0 => -1
  | k + 1 => if 0 ≤ firstB g d l k then firstB g d l k else if g (l.getD k d) = true then (k : Int) else -1
theorem firstB_none {α : Type} {g : α → Bool} {d : α} {l : List α} : ∀ {k : Nat}, (∀ j, j < k → g (l.getD j d) = false) → firstB g d l k = -1
  | 0, _ => rfl
  | k + 1, h => by
    rw [firstB, firstB_none fun j hj => h j (by omega), if_neg (by decide), if_neg (by rw [h k (by omega)]; decide)]
theorem firstB_at {α : Type} {g : α → Bool} {d : α} {l : List α} {k : Nat} (h : ∀ j, j < k → g (l.getD j d) = false) (hk : g (l.getD k d) = true) : ∀ n, k < n → firstB g d l n = k
  | 0, hn => absurd hn (Nat.not_lt_zero _)
  | n + 1, hn => by
    rcases Nat.lt_succ_iff_lt_or_eq.1 hn with hn | rfl
    · rw [firstB, firstB_at h hk n hn, if_pos (by omega)]
    · rw [firstB, firstB_none h, if_neg (by decide), if_pos hk]
theorem firstB_any {α : Type} {g : α → Bool} {d : α} {l : List α} : decide (0 ≤ firstB g d l l.length) = l.any g := by
  rcases hb : l.any g with _ | _
  · rw [firstB_none fun j hj => ?_]
    · rfl
    · rw [List.any_eq_false] at hb
      have : l.getD j d ∈ l := by simp [List.getD_eq_getElem?_getD, hj]
      simpa using hb _ this
  · obtain ⟨x, hx, hg⟩ := List.any_eq_true.1 hb
    have : ∃ j, j < l.length ∧ g (l.getD j d) = true := by
      obtain ⟨j, hj, rfl⟩ := List.getElem_of_mem hx
      exact ⟨j, hj, by simpa [List.getD_eq_getElem?_getD, hj] using hg⟩
    refine decide_eq_true ?_
    apply Classical.byContradiction
    intro hn
    have hnone : ∀ n, n ≤ l.length → firstB g d l n < 0 → ∀ j, j < n → g (l.getD j d) = false := by
      intro n
      induction n with
      | zero => exact fun _ _ j hj => absurd hj (Nat.not_lt_zero _)
      | succ n ih =>
        intro h1 h2 j hj
        rw [firstB] at h2
        split at h2
        · omega
        · rename_i h3
          split at h2
          · omega
          · rename_i h4
            rcases Nat.lt_succ_iff_lt_or_eq.1 hj with hj | rfl
            · exact ih (by omega) (by omega) j hj
            · simpa using h4
    obtain ⟨j, h1, h2⟩ := this
    have := hnone l.length (Nat.le_refl _) (by omega) j h1
    rw [this] at h2; cases h2
theorem indexI (f : FuncId) (g : Int → Bool) (l : List Int) (hl : l.length ≤ 1000000000) (hc : ∀ x, x ∈ l → Pure Try.prog f [encI x] (.atom (.bool (g x))) []) : Pure Try.prog 62 [ints l, .fn f []] (encI (firstB g 0 l l.length)) [] := by
  refine Pure.intro (ts := [4]) Try.func62 (by kernel_rfl) rfl rfl rfl (Nat.le_of_ble_eq_true rfl) ?_ ?_
  · simp [pure_ints, PV.pure, pureL]
  refine sY [0, 1] (fun P S K => K ⟨[(0, S.get 0), (1, S.get 1)], S.hp, S.nx, S.gh⟩) ?_
  all_goals
  refine Tri.seq ?_
  refine sY [0, 1, 7, 8] (fun P S K => XvLen P 22 (S.get 0) (fun r1 _ => K ⟨[(0, S.get 0), (1, S.get 1), (7, r1), (8, (.atom (.int .i64 0)))], S.hp, S.nx, S.gh⟩)) ?_
  all_goals
  refine Tri.block ?_
  refine Tri.loop (α := (k : Nat) ×' (k ≤ l.length ∧ ∀ j, j < k → g (l.getD j 0) = false)) (fun z => (fun (k : Nat) => (⟨[(0, ints l), (1, .fn f []), (7, encI l.length), (8, encI k)], [], 0, []⟩ : St)) z.1) (fun z => (fun (k : Nat) => l.length - k) z.1) ⟨0, ⟨Nat.zero_le _, fun j hj => absurd hj (Nat.not_lt_zero _)⟩⟩ [] ?_ ?_
  ·exact leqB20
  ·rintro ⟨k, ⟨hk, hno⟩⟩
   refine sY [0, 1, 7, 8, 9] (fun P S K => XvBinOV P .lss 3 (.tmp 7) (S.get 8) (S.get 7) (fun r0 _ => K ⟨[(0, S.get 0), (1, S.get 1), (7, S.get 7), (8, S.get 8), (9, r0)], S.hp, S.nx, S.gh⟩)) ?_
   all_goals
   refine Tri.seq ?_
   refine Tri.cond rfl (fun h9 => ?_) (fun h9 => ?_)
   ·try (cases h9; done)
    all_goals (try simp only [CQ] at h9)
    all_goals
    refine Tri.skip ?_
    refine Tri.seq ?_
    refine Tri.block ?_
    have hkl : k < l.length := by omega
    refine sY [0, 1, 5, 7, 8] (fun P S K => K ⟨[(0, S.get 0), (1, S.get 1), (5, (S.get 8)), (7, S.get 7), (8, S.get 8)], S.hp, S.nx, S.gh⟩) ?_
    all_goals
    refine sZ [0, 1, 5, 7, 8, 16] (fun P S K => XvIndexAddr P 22 (S.get 0) (S.get 5) (fun r3 _ => XvLoad P 3 (M S.hp S.nx) r3 (fun r4 _ => XvFnIV P (M S.hp S.nx) (S.get 1) [r4] (fun r5 ef5 => K ⟨[(0, S.get 0), (1, S.get 1), (5, S.get 5), (7, S.get 7), (8, S.get 8), (16, r5)], (Eff.hp ef5 S.nx S.hp), (S.nx + ef5.add.length), S.gh⟩)))) fun K hK => ?_
    repeat' (first | (refine hK _ ?_; clear hK K) | refine And.intro ?_ ?_ | exact cl | refine .inl ⟨_, _, hc (li l k) (li_mem hkl), ?_⟩ | (refine st ?_; try simp only [getD_encI hkl]) | simp only [getD_encI hkl])
    all_goals
    refine Tri.cond rfl (fun h16 => ?_) (fun h16 => ?_)
    ·try (cases h16; done)
     all_goals (try simp only [CQ] at h16)
     all_goals
     refine sY [4] (fun P S K => K ⟨[(4, (S.get 5))], S.hp, S.nx, S.gh⟩) ?_
     all_goals
     refine Tri.ret ?_
     show ResOk _ _ _ _
     rw [firstB_at hno (show g (l.getD k 0) = true by assumption) l.length hkl]
     exact ResOk.val lsrB20 lpvB20
    ·try (cases h16; done)
     all_goals (try simp only [CQ] at h16)
     all_goals
     refine Tri.skip ?_
     refine rY [0, 1, 7, 8] (fun P S K => XvBinOV P .add 3 (.const (.int .i64 1)) (S.get 8) (.atom (.int .i64 1)) (fun r0 _ => K ⟨[(0, S.get 0), (1, S.get 1), (7, S.get 7), (8, r0)], S.hp, S.nx, S.gh⟩)) ?_
     all_goals try simp (disch := omega) only [wrap_id, wrap8_id]
     all_goals
     refine ⟨⟨k + 1, by omega, fun j hj => ?_⟩, [], by dsimp only; omega, ?_⟩
     · rcases Nat.lt_succ_iff_lt_or_eq.1 hj with hj | rfl
       · exact hno j hj
       · assumption
     · exact leqB20
   ·try (cases h9; done)
    all_goals (try simp only [CQ] at h9)
    all_goals
    refine Tri.exit ?_
    refine sY [4] (fun P S K => K ⟨[(4, (.atom (.int .i64 (-1))))], S.hp, S.nx, S.gh⟩) ?_
    all_goals
    refine Tri.ret ?_
    show ResOk _ _ _ _
    obtain rfl : k = l.length := by omega
    rw [firstB_none hno]
    exact ResOk.val lsrB20 lpvB20
theorem containsI (f : FuncId) (g : Int → Bool) (l : List Int) (hl : l.length ≤ 1000000000) (hc : ∀ x, x ∈ l → Pure Try.prog f [encI x] (.atom (.bool (g x))) []) : Pure Try.prog 43 [ints l, .fn f []] (.atom (.bool (l.any g))) [] := by
  refine Pure.intro (ts := [4]) Try.func43 (by kernel_rfl) rfl rfl rfl (Nat.le_of_ble_eq_true rfl) ?_ ?_
  · simp [pure_ints, PV.pure, pureL]
  refine sY [0, 1] (fun P S K => K ⟨[(0, S.get 0), (1, S.get 1)], S.hp, S.nx, S.gh⟩) ?_
  all_goals
  refine sZ [4] (fun P S K => XvFnIV P (M S.hp S.nx) (.fn 62 []) [(S.get 0), (S.get 1)] (fun r2 ef2 => XvBinOV P .geq 3 (.const (.int .i64 0)) r2 (.atom (.int .i64 0)) (fun r3 _ => K ⟨[(4, r3)], (Eff.hp ef2 S.nx S.hp), (S.nx + ef2.add.length), S.gh⟩))) fun K hK => ?_
  repeat' (first | (refine hK _ ?_; clear hK K) | refine And.intro ?_ ?_ | exact cl | refine .inl ⟨_, _, indexI f g l hl hc, ?_⟩ | refine st ?_)
  all_goals
  refine Tri.ret ?_
  show ResOk _ _ _ _
  rw [← firstB_any (d := 0)]
  exact ResOk.val lsrB20 lpvB20
theorem indexU (f : FuncId) (g : Nat → Bool) (l : List Nat) (hl : l.length ≤ 1000000000) (hc : ∀ x, x ∈ l → Pure Try.prog f [encN x] (.atom (.bool (g x))) []) : Pure Try.prog 64 [nats l, .fn f []] (encI (firstB g 0 l l.length)) [] := by
  refine Pure.intro (ts := [4]) Try.func64 (by kernel_rfl) rfl rfl rfl (Nat.le_of_ble_eq_true rfl) ?_ ?_
  · simp [pure_nats, PV.pure, pureL]
  refine sY [0, 1] (fun P S K => K ⟨[(0, S.get 0), (1, S.get 1)], S.hp, S.nx, S.gh⟩) ?_
  all_goals
  refine Tri.seq ?_
  refine sZ [0, 1, 7, 8] (fun P S K => XvLen P 82 (S.get 0) (fun r1 _ => K ⟨[(0, S.get 0), (1, S.get 1), (7, r1), (8, (.atom (.int .i64 0)))], S.hp, S.nx, S.gh⟩)) fun K hK => ?_
  repeat' (first | (refine hK _ ?_; clear hK K) | refine And.intro ?_ ?_ | exact cl | (refine st ?_; try simp only [nats]) | simp only [nats])
  all_goals
  refine Tri.block ?_
  refine Tri.loop (α := (k : Nat) ×' (k ≤ l.length ∧ ∀ j, j < k → g (l.getD j 0) = false)) (fun z => (fun (k : Nat) => (⟨[(0, nats l), (1, .fn f []), (7, encI l.length), (8, encI k)], [], 0, []⟩ : St)) z.1) (fun z => (fun (k : Nat) => l.length - k) z.1) ⟨0, ⟨Nat.zero_le _, fun j hj => absurd hj (Nat.not_lt_zero _)⟩⟩ [] ?_ ?_
  ·exact leqB20
  ·rintro ⟨k, ⟨hk, hno⟩⟩
   refine sY [0, 1, 7, 8, 9] (fun P S K => XvBinOV P .lss 3 (.tmp 7) (S.get 8) (S.get 7) (fun r0 _ => K ⟨[(0, S.get 0), (1, S.get 1), (7, S.get 7), (8, S.get 8), (9, r0)], S.hp, S.nx, S.gh⟩)) ?_
   all_goals
   refine Tri.seq ?_
   refine Tri.cond rfl (fun h9 => ?_) (fun h9 => ?_)
   ·try (cases h9; done)
    all_goals (try simp only [CQ] at h9)
    all_goals
    refine Tri.skip ?_
    refine Tri.seq ?_
    refine Tri.block ?_
    have hkl : k < l.length := by omega
    refine sY [0, 1, 5, 7, 8] (fun P S K => K ⟨[(0, S.get 0), (1, S.get 1), (5, (S.get 8)), (7, S.get 7), (8, S.get 8)], S.hp, S.nx, S.gh⟩) ?_
    all_goals
    refine sZ [0, 1, 5, 7, 8, 16] (fun P S K => XvIndexAddr P 82 (S.get 0) (S.get 5) (fun r3 _ => XvLoad P 83 (M S.hp S.nx) r3 (fun r4 _ => XvFnIV P (M S.hp S.nx) (S.get 1) [r4] (fun r5 ef5 => K ⟨[(0, S.get 0), (1, S.get 1), (5, S.get 5), (7, S.get 7), (8, S.get 8), (16, r5)], (Eff.hp ef5 S.nx S.hp), (S.nx + ef5.add.length), S.gh⟩)))) fun K hK => ?_
    repeat' (first | (refine hK _ ?_; clear hK K) | refine And.intro ?_ ?_ | exact cl | refine .inl ⟨_, _, hc (l.getD k 0) (by simp [List.getD_eq_getElem?_getD, hkl]), ?_⟩ | (refine st ?_; try simp only [nats, getD_encN hkl, encN]) | simp only [nats, getD_encN hkl, encN])
    all_goals
    refine Tri.cond rfl (fun h16 => ?_) (fun h16 => ?_)
    ·try (cases h16; done)
     all_goals (try simp only [CQ] at h16)
     all_goals
     refine sY [4] (fun P S K => K ⟨[(4, (S.get 5))], S.hp, S.nx, S.gh⟩) ?_
     all_goals
     refine Tri.ret ?_
     show ResOk _ _ _ _
     rw [firstB_at hno (show g (l.getD k 0) = true by assumption) l.length hkl]
     exact ResOk.val lsrB20 lpvB20
    ·try (cases h16; done)
     all_goals (try simp only [CQ] at h16)
     all_goals
     refine Tri.skip ?_
     refine rY [0, 1, 7, 8] (fun P S K => XvBinOV P .add 3 (.const (.int .i64 1)) (S.get 8) (.atom (.int .i64 1)) (fun r0 _ => K ⟨[(0, S.get 0), (1, S.get 1), (7, S.get 7), (8, r0)], S.hp, S.nx, S.gh⟩)) ?_
     all_goals try simp (disch := omega) only [wrap_id, wrap8_id]
     all_goals
     refine ⟨⟨k + 1, by omega, fun j hj => ?_⟩, [], by dsimp only; omega, ?_⟩
     · rcases Nat.lt_succ_iff_lt_or_eq.1 hj with hj | rfl
       · exact hno j hj
       · assumption
     · exact leqB20
   ·try (cases h9; done)
    all_goals (try simp only [CQ] at h9)
    all_goals
    refine Tri.exit ?_
    refine sY [4] (fun P S K => K ⟨[(4, (.atom (.int .i64 (-1))))], S.hp, S.nx, S.gh⟩) ?_
    all_goals
    refine Tri.ret ?_
    show ResOk _ _ _ _
    obtain rfl : k = l.length := by omega
    rw [firstB_none hno]
    exact ResOk.val lsrB20 lpvB20
theorem containsU (f : FuncId) (g : Nat → Bool) (l : List Nat) (hl : l.length ≤ 1000000000) (hc : ∀ x, x ∈ l → Pure Try.prog f [encN x] (.atom (.bool (g x))) []) : Pure Try.prog 45 [nats l, .fn f []] (.atom (.bool (l.any g))) [] := by
  refine Pure.intro (ts := [4]) Try.func45 (by kernel_rfl) rfl rfl rfl (Nat.le_of_ble_eq_true rfl) ?_ ?_
  · simp [pure_nats, PV.pure, pureL]
  refine sY [0, 1] (fun P S K => K ⟨[(0, S.get 0), (1, S.get 1)], S.hp, S.nx, S.gh⟩) ?_
  all_goals
  refine sZ [4] (fun P S K => XvFnIV P (M S.hp S.nx) (.fn 64 []) [(S.get 0), (S.get 1)] (fun r2 ef2 => XvBinOV P .geq 3 (.const (.int .i64 0)) r2 (.atom (.int .i64 0)) (fun r3 _ => K ⟨[(4, r3)], (Eff.hp ef2 S.nx S.hp), (S.nx + ef2.add.length), S.gh⟩))) fun K hK => ?_
  repeat' (first | (refine hK _ ?_; clear hK K) | refine And.intro ?_ ?_ | exact cl | refine .inl ⟨_, _, indexU f g l hl hc, ?_⟩ | (refine st ?_; try simp only [nats]) | simp only [nats])
  all_goals
  refine Tri.ret ?_
  show ResOk _ _ _ _
  rw [← firstB_any (d := 0)]
  exact ResOk.val lsrB20 lpvB20
theorem indexP (f : FuncId) (c1 c2 : PV) (g : Int × Int → Bool) (l : List (Int × Int)) (h1 : c1.pure = true) (h2 : c2.pure = true) (hl : l.length ≤ 1000000000) (hc : ∀ x, x ∈ l → Pure Try.prog f [encP x, c1, c2] (.atom (.bool (g x))) []) : Pure Try.prog 63 [pairs l, .fn f [c1, c2]] (encI (firstB g (0, 0) l l.length)) [] := by
  have hfp : (PV.fn f [c1, c2]).pure = true := by simp [PV.pure, pureL, h1, h2]
  have r1 : ∀ ρ, c1.ren ρ = c1 := fun ρ => ren_pure ρ _ h1
  have r2 : ∀ ρ, c2.ren ρ = c2 := fun ρ => ren_pure ρ _ h2
  have s1 : ∀ H keep n, sealed H keep n c1 = c1 := fun H k n => sealed_pure H k n h1
  have s2 : ∀ H keep n, sealed H keep n c2 = c2 := fun H k n => sealed_pure H k n h2
  have o1 : c1.noOb = true := pure_noOb _ h1
  have o2 : c2.noOb = true := pure_noOb _ h2
  refine Pure.intro (ts := [4]) Try.func63 (by kernel_rfl) rfl rfl rfl (Nat.le_of_ble_eq_true rfl) ?_ ?_
  · simp [pure_pairs, PV.pure, pureL, h1, h2]
  refine sY [0, 1] (fun P S K => K ⟨[(0, S.get 0), (1, S.get 1)], S.hp, S.nx, S.gh⟩) ?_
  all_goals
  refine Tri.seq ?_
  refine sZ [0, 1, 7, 8] (fun P S K => XvLen P 23 (S.get 0) (fun r1 _ => K ⟨[(0, S.get 0), (1, S.get 1), (7, r1), (8, (.atom (.int .i64 0)))], S.hp, S.nx, S.gh⟩)) fun K hK => ?_
  repeat' (first | (refine hK _ ?_; clear hK K) | refine And.intro ?_ ?_ | exact cl | (refine st ?_; try simp only [pairs]) | simp only [pairs])
  all_goals
  refine Tri.block ?_
  refine Tri.loop (α := (k : Nat) ×' (k ≤ l.length ∧ ∀ j, j < k → g (l.getD j (0, 0)) = false)) (fun z => (fun (k : Nat) => (⟨[(0, pairs l), (1, .fn f [c1, c2]), (7, encI l.length), (8, encI k)], [], 0, []⟩ : St)) z.1) (fun z => (fun (k : Nat) => l.length - k) z.1) ⟨0, ⟨Nat.zero_le _, fun j hj => absurd hj (Nat.not_lt_zero _)⟩⟩ [] ?_ ?_
  ·exact leqB20
  ·rintro ⟨k, ⟨hk, hno⟩⟩
   refine sY [0, 1, 7, 8, 9] (fun P S K => XvBinOV P .lss 3 (.tmp 7) (S.get 8) (S.get 7) (fun r0 _ => K ⟨[(0, S.get 0), (1, S.get 1), (7, S.get 7), (8, S.get 8), (9, r0)], S.hp, S.nx, S.gh⟩)) ?_
   all_goals
   refine Tri.seq ?_
   refine Tri.cond rfl (fun h9 => ?_) (fun h9 => ?_)
   ·try (cases h9; done)
    all_goals (try simp only [CQ] at h9)
    all_goals
    refine Tri.skip ?_
    refine Tri.seq ?_
    refine Tri.block ?_
    have hkl : k < l.length := by omega
    refine sY [0, 1, 5, 7, 8] (fun P S K => K ⟨[(0, S.get 0), (1, S.get 1), (5, (S.get 8)), (7, S.get 7), (8, S.get 8)], S.hp, S.nx, S.gh⟩) ?_
    all_goals
    refine sZ [0, 1, 5, 7, 8, 16] (fun P S K => XvIndexAddr P 23 (S.get 0) (S.get 5) (fun r3 _ => XvLoad P 67 (M S.hp S.nx) r3 (fun r4 _ => XvFnIV P (M S.hp S.nx) (S.get 1) [r4] (fun r5 ef5 => K ⟨[(0, S.get 0), (1, S.get 1), (5, S.get 5), (7, S.get 7), (8, S.get 8), (16, r5)], (Eff.hp ef5 S.nx S.hp), (S.nx + ef5.add.length), S.gh⟩)))) fun K hK => ?_
    repeat' (first | (refine hK _ ?_; clear hK K) | refine And.intro ?_ ?_ | exact cl | refine .inl ⟨_, _, hc (lp l k) (lp_mem hkl), ?_⟩ | (refine st ?_; try simp only [pairs, getD_encP hkl, encP, s1, s2, o1, o2]) | simp only [pairs, getD_encP hkl, encP, s1, s2, o1, o2])
    all_goals
    refine Tri.cond rfl (fun h16 => ?_) (fun h16 => ?_)
    ·try (cases h16; done)
     all_goals (try simp only [CQ] at h16)
     all_goals
     refine sY [4] (fun P S K => K ⟨[(4, (S.get 5))], S.hp, S.nx, S.gh⟩) ?_
     all_goals
     refine Tri.ret ?_
     show ResOk _ _ _ _
     rw [firstB_at hno (show g (l.getD k (0, 0)) = true by assumption) l.length hkl]
     exact ResOk.val lsrB20 lpvB20
    ·try (cases h16; done)
     all_goals (try simp only [CQ] at h16)
     all_goals
     refine Tri.skip ?_
     refine rY [0, 1, 7, 8] (fun P S K => XvBinOV P .add 3 (.const (.int .i64 1)) (S.get 8) (.atom (.int .i64 1)) (fun r0 _ => K ⟨[(0, S.get 0), (1, S.get 1), (7, S.get 7), (8, r0)], S.hp, S.nx, S.gh⟩)) ?_
     all_goals try simp (disch := omega) only [wrap_id, wrap8_id]
     all_goals
     refine ⟨⟨k + 1, by omega, fun j hj => ?_⟩, [], by dsimp only; omega, ?_⟩
     · rcases Nat.lt_succ_iff_lt_or_eq.1 hj with hj | rfl
       · exact hno j hj
       · assumption
     · exact leqB20
   ·try (cases h9; done)
    all_goals (try simp only [CQ] at h9)
    all_goals
    refine Tri.exit ?_
    refine sY [4] (fun P S K => K ⟨[(4, (.atom (.int .i64 (-1))))], S.hp, S.nx, S.gh⟩) ?_
    all_goals
    refine Tri.ret ?_
    show ResOk _ _ _ _
    obtain rfl : k = l.length := by omega
    rw [firstB_none hno]
    exact ResOk.val lsrB20 lpvB20
theorem containsP (f : FuncId) (c1 c2 : PV) (g : Int × Int → Bool) (l : List (Int × Int)) (h1 : c1.pure = true) (h2 : c2.pure = true) (hl : l.length ≤ 1000000000) (hc : ∀ x, x ∈ l → Pure Try.prog f [encP x, c1, c2] (.atom (.bool (g x))) []) : Pure Try.prog 44 [pairs l, .fn f [c1, c2]] (.atom (.bool (l.any g))) [] := by
  have s1 : ∀ H keep n, sealed H keep n c1 = c1 := fun H k n => sealed_pure H k n h1
  have s2 : ∀ H keep n, sealed H keep n c2 = c2 := fun H k n => sealed_pure H k n h2
  have o1 : c1.noOb = true := pure_noOb _ h1
  have o2 : c2.noOb = true := pure_noOb _ h2
  refine Pure.intro (ts := [4]) Try.func44 (by kernel_rfl) rfl rfl rfl (Nat.le_of_ble_eq_true rfl) ?_ ?_
  · simp [pure_pairs, PV.pure, pureL, h1, h2]
  refine sY [0, 1] (fun P S K => K ⟨[(0, S.get 0), (1, S.get 1)], S.hp, S.nx, S.gh⟩) ?_
  all_goals
  refine sZ [4] (fun P S K => XvFnIV P (M S.hp S.nx) (.fn 63 []) [(S.get 0), (S.get 1)] (fun r2 ef2 => XvBinOV P .geq 3 (.const (.int .i64 0)) r2 (.atom (.int .i64 0)) (fun r3 _ => K ⟨[(4, r3)], (Eff.hp ef2 S.nx S.hp), (S.nx + ef2.add.length), S.gh⟩))) fun K hK => ?_
  repeat' (first | (refine hK _ ?_; clear hK K) | refine And.intro ?_ ?_ | exact cl | refine .inl ⟨_, _, indexP f c1 c2 g l h1 h2 hl hc, ?_⟩ | (refine st ?_; try simp only [pairs, s1, s2, o1, o2]) | simp only [pairs, s1, s2, o1, o2])
  all_goals
  refine Tri.ret ?_
  show ResOk _ _ _ _
  rw [← firstB_any (d := (0, 0))]
  exact ResOk.val lsrB20 lpvB20
theorem leqB21 {p : Prop} (h : p := by (refine ⟨4, ?_, ?_, rfl, by simp, rfl, fun _ h _ => absurd h (Nat.not_lt_zero _)⟩ <;> (simp only [List.forall_mem_cons]; repeat' (first | refine And.intro ?_ ?_ | (intro p hp; exact absurd hp List.not_mem_nil) | rfl | exact sp (pure_case _) | exact sp (pure_pairs _) | exact sp (pure_nats _) | exact (sealed_pure _ _ _ (pure_ints _)).trans (ren_ints _ _).symm | exact (sealed_pure _ _ _ (pure_strs _)).trans (ren_strs _ _).symm | exact sp (by assumption) | (intro o ho; cases ho; refine ⟨by decide, ?_⟩; first | (refine LeqS.row rfl ?_ ?_; (next => (first | rfl | (simp only [List.map_append, List.map_cons, List.map_nil, List.append_nil, List.nil_append, List.append_assoc, List.cons_append, encI, encS, ints, strs]; done) | (simp [encI, encS, ints, strs, encP, encN, List.map_set]; done))); (next => (first | rfl | exact pureL_encI _ | exact pureL_encS _ | exact pureL_ints _ | exact pureL_strs _ | exact pureL_encP _ | exact pureL_encN _ | (simp [pureL_append, pureL_encI, pureL_encS, pureL_ints, pureL_strs, pureL, PV.pure, pure_ints, pure_strs, pure_case, pureL_encP, pure_pairs, pureL_encN, pure_nats]; done))); done) | refine ⟨_, rfl, rfl, ?_⟩) | (simp [St.born, St.known, retV, St.get, St.obj, lk, sealed, PV.ren, renL, rmap, AO.ren, ints, strs, encI, encS, map_sealed_encI, map_sealed_encS, map_sealed_ints, map_sealed_strs, map_ren_encI, map_ren_encS, map_ren_ints, map_ren_strs, renL_encI, renL_encS, renL_ints, renL_strs, ren_case, encC, pairs, renL_encP, map_sealed_encP, map_ren_encP, encP, take_map_len, renL_encN, map_sealed_encN, map_ren_encN, nats] <;> omega)))); first | done | fail) : p := h
structure Good5 (c : CaseD) : Prop where
  many : c.sizes.length ≤ 64
  lo : 2 ≤ c.people
  hi : c.people ≤ 6
  bar : ∀ b, b ∈ c.bars → 0 ≤ b.1 ∧ b.1 < c.sizes.length ∧ 0 ≤ b.2 ∧ b.2 < c.people
theorem Good.five {c : CaseD} (h : Good c) : Good5 c := ⟨h.many, h.lo, h.hi, h.bar⟩
def opens (c : CaseD) : List Nat := (List.range c.sizes.length).map fun (i : Nat) => maskN (fun (p : Nat) => openB c i p) c.people.toNat
def barsTo (c : CaseD) (k : Nat) : CaseD := ⟨c.sizes, c.people, c.bars.take k⟩
theorem opens_len (c : CaseD) : (opens c).length = c.sizes.length := by simp [opens]
theorem opens_get {c : CaseD} {i : Nat} (h : i < c.sizes.length) : (opens c).getD i 0 = maskN (fun (p : Nat) => openB c i p) c.people.toNat := by
  simp [opens, List.getD_eq_getElem?_getD, h]
theorem opens_0 {c : CaseD} (h : c.people ≤ 6) : opens (barsTo c 0) = List.replicate c.sizes.length (2 ^ c.people.toNat - 1) := by
  unfold opens
  refine List.ext_getElem (by simp [barsTo]) fun i h1 h2 => ?_
  rw [List.getElem_map, List.getElem_replicate]
  rw [← mask_all (show c.people.toNat ≤ 6 by omega)]
  exact maskN_congr _ fun q _ => rfl
theorem opens_step {c : CaseD} {k : Nat} (h5 : Good5 c) (hk : k < c.bars.length) : (opens (barsTo c k)).set (lp c.bars k).1.toNat (maskN (fun q => openB (barsTo c k) (lp c.bars k).1.toNat q && decide (q ≠ (lp c.bars k).2.toNat)) c.people.toNat) = opens (barsTo c (k + 1)) := by
  have hb := h5.bar _ (lp_mem hk)
  have hop : ∀ i p : Int, openB (barsTo c (k + 1)) i p = (openB (barsTo c k) i p && !isBar i p (lp c.bars k)) := fun i p => by
    show (!((c.bars.take (k + 1)).any (isBar i p))) = _
    rw [List.take_succ_eq_append_getElem hk, List.any_append, ← lp_get hk]
    simp [openB, barsTo]
  refine List.ext_getElem (by simp [opens, barsTo]) fun i h1 h2 => ?_
  have hi : i < c.sizes.length := by simpa [opens, barsTo] using h2
  rw [List.getElem_set]
  split
  · rename_i e
    subst e
    simp only [opens, List.getElem_map, List.getElem_range]
    refine maskN_congr _ fun q hq => ?_
    rw [hop]
    congr 1
    unfold isBar
    by_cases hqe : q = (lp c.bars k).2.toNat
    · subst hqe
      simp only [ne_eq, not_true_eq_false, decide_false]
      rw [dec_yes (show (lp c.bars k).1 = (((lp c.bars k).1.toNat : Nat) : Int) by omega), dec_yes (show (lp c.bars k).2 = (((lp c.bars k).2.toNat : Nat) : Int) by omega)]; rfl
    · rw [dec_yes hqe, dec_no (show ¬ (lp c.bars k).2 = (q : Int) by omega)]; simp
  · rename_i e
    simp only [opens, List.getElem_map, List.getElem_range]
    refine maskN_congr _ fun q hq => ?_
    rw [hop]
    unfold isBar
    rw [dec_no (show ¬ (lp c.bars k).1 = (i : Int) by omega)]; simp
theorem opens_all (c : CaseD) : opens (barsTo c c.bars.length) = opens c := by unfold opens barsTo; rw [List.take_length]
theorem shl_all {n : Int} (h2 : 2 ≤ n) (h6 : n ≤ 6) : IntKind.u64.wrap (IntKind.u64.wrap (1 * 2 ^ min n.toNat IntKind.u64.bits) - 1) = ((2 ^ n.toNat - 1 : Nat) : Int) := by
  obtain rfl | rfl | rfl | rfl | rfl : n = 2 ∨ n = 3 ∨ n = 4 ∨ n = 5 ∨ n = 6 := by omega
  all_goals decide
theorem shl_one {n : Int} (h2 : 0 ≤ n) (h6 : n < 6) : IntKind.u64.wrap (1 * 2 ^ min n.toNat IntKind.u64.bits) = ((2 ^ n.toNat : Nat) : Int) := by
  obtain rfl | rfl | rfl | rfl | rfl | rfl : n = 0 ∨ n = 1 ∨ n = 2 ∨ n = 3 ∨ n = 4 ∨ n = 5 := by omega
  all_goals decide
theorem set_encN (l : List Nat) (i : Nat) (n : Nat) : (l.map encN).set i (PV.atom (.int .u64 (n : Int))) = (l.set i n).map encN := by rw [List.map_set]; rfl
theorem fillN_get {i n : Nat} (h : i < n) (a : Nat) : (List.replicate i a ++ List.replicate (n - i) 0).getD i 0 = 0 := by
  have e : n - i = (n - (i + 1)) + 1 := by omega
  rw [List.getD_eq_getElem?_getD, List.getElem?_append_right (by simp), e, List.replicate_succ]
  simp
theorem fillN_set {i n : Nat} (h : i < n) (a : Nat) : (List.replicate i a ++ List.replicate (n - i) 0).set i a = List.replicate (i + 1) a ++ List.replicate (n - (i + 1)) 0 := by
  have e : n - i = (n - (i + 1)) + 1 := by omega
  rw [e, List.replicate_succ, List.set_append_right _ _ (by simp), List.replicate_succ']
  simp
theorem zeros_N (n : Nat) : List.replicate n (PV.atom (.int .u64 0)) = (List.replicate n 0).map encN := by rw [List.map_replicate]; rfl
theorem open_pure (c : CaseD) (h5 : Good5 c) (hbl : c.bars.length ≤ 1000000) : Pure Try.prog 46 [encC c] (nats (opens c)) [] := by
  have hmany := h5.many
  have hlo := h5.lo
  have hhi := h5.hi
  refine Pure.intro (ts := [2]) Try.func46 (by kernel_rfl) rfl rfl rfl (Nat.le_of_ble_eq_true rfl) ?_ ?_
  · simp [pure_case, encI, PV.pure, pureL]
  refine sZ [1] (fun P S K => XvBox S.nx (S.get 0) (fun r0 ef0 => K ⟨[(1, r0)], (Eff.hp ef0 S.nx S.hp), (S.nx + ef0.add.length), S.gh⟩)) fun K hK => ?_
  repeat' (first | (refine hK _ ?_; clear hK K) | refine And.intro ?_ ?_ | exact cl | (refine st ?_; try simp only [encC, pairs]) | simp only [encC, pairs])
  all_goals
  refine sZ [1, 3] (fun P S K => XvFieldAddr P 38 0 (S.get 1) (fun r0 _ => XvLoad P 22 (M S.hp S.nx) r0 (fun r1 _ => XvLen P 22 r1 (fun r2 _ => XvMake P 82 (M S.hp S.nx) r2 r2 (fun r3 ef3 => K ⟨[(1, S.get 1), (3, r3)], (Eff.hp ef3 S.nx S.hp), (S.nx + ef3.add.length), S.gh⟩))))) fun K hK => ?_
  repeat' (first | (refine hK _ ?_; clear hK K) | ((first | refine xG_intro (fun hg => ?_) (fun hg => ?_) | refine fun (hg : (_ : Prop)) => ?_) <;> ((try simp only [BQ] at hg); try (exfalso; omega))) | refine And.intro ?_ ?_ | exact cl | refine one_take ?_ _ | refine one_drop ?_ _ | (refine st ?_; try simp only [encC, pairs, List.length_replicate]) | simp only [encC, pairs, List.length_replicate])
  rw [zeros_N]
  all_goals
  refine Tri.seq ?_
  refine sZ [1, 3, 12, 13] (fun P S K => XvLen P 82 (S.get 3) (fun r1 _ => K ⟨[(1, S.get 1), (3, S.get 3), (12, r1), (13, (.atom (.int .i64 0)))], S.hp, S.nx, S.gh⟩)) fun K hK => ?_
  repeat' (first | (refine hK _ ?_; clear hK K) | refine And.intro ?_ ?_ | exact cl | (refine st ?_; try simp only [encC, pairs]) | simp only [encC, pairs])
  all_goals
  refine Tri.block ?_
  refine Tri.loop (α := (i : Nat) ×' (i ≤ c.sizes.length)) (fun z => (fun (i : Nat) => (⟨[(1, .ptr 0 3 0 0), (3, .ob 1 1 0 c.sizes.length), (12, encI c.sizes.length), (13, encI i)], [(0, some ⟨3, [encC c]⟩), (1, some ⟨1, (List.replicate i (2 ^ c.people.toNat - 1) ++ List.replicate (c.sizes.length - i) 0).map encN⟩)], 2, []⟩ : St)) z.1) (fun z => (fun (i : Nat) => c.sizes.length - i) z.1) ⟨0, Nat.zero_le _⟩ [0, 1] ?_ ?_
  ·exact leqB21
  ·rintro ⟨i, hi⟩
   refine sY [1, 3, 12, 13, 14] (fun P S K => XvBinOV P .lss 3 (.tmp 12) (S.get 13) (S.get 12) (fun r0 _ => K ⟨[(1, S.get 1), (3, S.get 3), (12, S.get 12), (13, S.get 13), (14, r0)], S.hp, S.nx, S.gh⟩)) ?_
   all_goals
   refine Tri.seq ?_
   refine Tri.cond rfl (fun h14 => ?_) (fun h14 => ?_)
   ·try (cases h14; done)
    all_goals (try simp only [CQ] at h14)
    all_goals
    refine Tri.skip ?_
    refine Tri.seq ?_
    refine Tri.block ?_
    have hil : i < c.sizes.length := by omega
    have hlen : (List.replicate i (2 ^ c.people.toNat - 1) ++ List.replicate (c.sizes.length - i) 0).length = c.sizes.length := by simp; omega
    refine sY [1, 3, 4, 12, 13] (fun P S K => K ⟨[(1, S.get 1), (3, S.get 3), (4, (S.get 13)), (12, S.get 12), (13, S.get 13)], S.hp, S.nx, S.gh⟩) ?_
    all_goals
    refine rZ [1, 3, 12, 13] (fun P S K => XvFieldAddr P 38 1 (S.get 1) (fun r2 _ => XvLoad P 3 (M S.hp S.nx) r2 (fun r3 _ => XvBinOV P .shl 83 (.tmp 19) (.atom (.int .u64 1)) r3 (fun r4 _ => XvBinOV P .sub 83 (.const (.int .u64 1)) r4 (.atom (.int .u64 1)) (fun r5 _ => XvIndexAddr P 82 (S.get 3) (S.get 4) (fun r6 _ => XvStore P 83 (M S.hp S.nx) r6 r5 (fun r7 ef7 => K ⟨[(1, S.get 1), (3, S.get 3), (12, S.get 12), (13, S.get 13)], (Eff.hp ef7 S.nx S.hp), (S.nx + ef7.add.length), S.gh⟩))))))) fun K hK => ?_
    repeat' (first | (refine hK _ ?_; clear hK K) | ((first | refine xG_intro (fun hg => ?_) (fun hg => ?_) | refine fun (hg : (_ : Prop)) => ?_) <;> ((try simp only [BQ] at hg); try (exfalso; omega))) | refine And.intro ?_ ?_ | exact cl | refine one_take ?_ _ | refine one_drop ?_ _ | (refine st ?_; try simp only [encC, pairs, getD_encN (show i < (List.replicate i (2 ^ c.people.toNat - 1) ++ List.replicate (c.sizes.length - i) 0).length by omega), fillN_get hil, encN, shl_all hlo hhi, hlen]) | simp only [encC, pairs, getD_encN (show i < (List.replicate i (2 ^ c.people.toNat - 1) ++ List.replicate (c.sizes.length - i) 0).length by omega), fillN_get hil, encN, shl_all hlo hhi, hlen])
    all_goals try simp (disch := omega) only [wrap_id, wrap8_id]
    rw [set_encN, fillN_set hil]
    all_goals
    refine rY [1, 3, 12, 13] (fun P S K => XvBinOV P .add 3 (.const (.int .i64 1)) (S.get 13) (.atom (.int .i64 1)) (fun r0 _ => K ⟨[(1, S.get 1), (3, S.get 3), (12, S.get 12), (13, r0)], S.hp, S.nx, S.gh⟩)) ?_
    all_goals try simp (disch := omega) only [wrap_id, wrap8_id]
    all_goals
    refine ⟨⟨i + 1, by omega⟩, [0, 1], by dsimp only; omega, ?_⟩
    exact leqB21
   ·try (cases h14; done)
    all_goals (try simp only [CQ] at h14)
    all_goals
    refine Tri.exit ?_
    refine Tri.seq ?_
    obtain rfl : i = c.sizes.length := by omega
    rw [show List.replicate c.sizes.length (2 ^ c.people.toNat - 1) ++ List.replicate (c.sizes.length - c.sizes.length) 0 = opens (barsTo c 0) by rw [opens_0 hhi, Nat.sub_self, List.replicate_zero, List.append_nil]]
    refine sZ [3, 25, 26, 27] (fun P S K => XvFieldAddr P 38 2 (S.get 1) (fun r0 _ => XvLoad P 23 (M S.hp S.nx) r0 (fun r1 _ => XvLen P 23 r1 (fun r2 _ => K ⟨[(3, S.get 3), (25, r1), (26, r2), (27, (.atom (.int .i64 0)))], S.hp, S.nx, S.gh⟩)))) fun K hK => ?_
    repeat' (first | (refine hK _ ?_; clear hK K) | refine And.intro ?_ ?_ | exact cl | (refine st ?_; try simp only [encC, pairs]) | simp only [encC, pairs])
    all_goals
    refine Tri.block ?_
    refine Tri.loop (α := (k : Nat) ×' (k ≤ c.bars.length)) (fun z => (fun (k : Nat) => (⟨[(3, .ob 1 1 0 c.sizes.length), (25, pairs c.bars), (26, encI c.bars.length), (27, encI k)], [(0, some ⟨3, [encC c]⟩), (1, some ⟨1, (opens (barsTo c k)).map encN⟩)], 2, []⟩ : St)) z.1) (fun z => (fun (k : Nat) => c.bars.length - k) z.1) ⟨0, Nat.zero_le _⟩ [0, 1] ?_ ?_
    ·exact leqB21
    ·rintro ⟨k, hk⟩
     refine sY [3, 25, 26, 27, 28] (fun P S K => XvBinOV P .lss 3 (.tmp 26) (S.get 27) (S.get 26) (fun r0 _ => K ⟨[(3, S.get 3), (25, S.get 25), (26, S.get 26), (27, S.get 27), (28, r0)], S.hp, S.nx, S.gh⟩)) ?_
     all_goals
     refine Tri.seq ?_
     refine Tri.cond rfl (fun h28 => ?_) (fun h28 => ?_)
     ·try (cases h28; done)
      all_goals (try simp only [CQ] at h28)
      all_goals
      refine Tri.skip ?_
      refine Tri.seq ?_
      refine Tri.block ?_
      have hkl : k < c.bars.length := by omega
      have hb := h5.bar _ (lp_mem hkl)
      have hol : (opens (barsTo c k)).length = c.sizes.length := opens_len _
      have hmc := mask_clear (fun (p : Nat) => openB (barsTo c k) ((lp c.bars k).1.toNat : Nat) p) (n := c.people.toNat) (p := (lp c.bars k).2.toNat) (by omega) (by omega)
      have hog := opens_get (c := barsTo c k) (i := (lp c.bars k).1.toNat) (show (lp c.bars k).1.toNat < (barsTo c k).sizes.length by show (lp c.bars k).1.toNat < c.sizes.length; omega)
      rw [show (barsTo c k).people = c.people from rfl] at hog
      have hsh := shl_one hb.2.2.1 (show (lp c.bars k).2 < 6 by omega)
      generalize 2 ^ (lp c.bars k).2.toNat = w at hmc hsh
      refine sZ [3, 6, 25, 26, 27] (fun P S K => XvIndexAddr P 23 (S.get 25) (S.get 27) (fun r0 _ => XvLoad P 67 (M S.hp S.nx) r0 (fun r1 _ => XvAlloc P 67 S.nx (fun r2 ef2 => XvStore P 67 (M (Eff.hp ef2 S.nx S.hp) (S.nx + ef2.add.length)) r2 r1 (fun r3 ef3 => K ⟨[(3, S.get 3), (6, r2), (25, S.get 25), (26, S.get 26), (27, S.get 27)], (Eff.hp ef3 (S.nx + ef2.add.length) (Eff.hp ef2 S.nx S.hp)), ((S.nx + ef2.add.length) + ef3.add.length), S.gh⟩))))) fun K hK => ?_
      repeat' (first | (refine hK _ ?_; clear hK K) | refine And.intro ?_ ?_ | exact cl | (refine st ?_; try simp only [encC, pairs, getD_encP hkl, encP]) | simp only [encC, pairs, getD_encP hkl, encP])
      all_goals
      refine rD 10 [3, 25, 26, 27] (fun P GD S K => XvIndexAddr P 67 (S.get 6) (.atom (.int .i64 0)) (fun r1 ef1 => XvLoad P 3 (M S.hp S.nx) r1 (fun r2 ef2 => XvIndexAddr P 82 (S.get 3) r2 (fun r3 ef3 => XvLoad P 83 (M S.hp S.nx) r3 (fun r4 ef4 => XvIndexAddr P 67 (S.get 6) (.atom (.int .i64 1)) (fun r5 ef5 => XvLoad P 3 (M S.hp S.nx) r5 (fun r6 ef6 => XvBinOV P .shl 83 (.tmp 37) (.atom (.int .u64 1)) r6 (fun r7 ef7 => XvBinOV P .andNot 83 (.tmp 38) r4 r7 (fun r8 ef8 => XvIndexAddr P 82 (S.get 3) r2 (fun r9 ef9 => (trOk S.nx GD [⟨S.nx, 0, [], [], []⟩, ⟨S.nx, 0, ef1.rd, [], []⟩, ⟨S.nx, 0, ef2.rd, [], []⟩, ⟨S.nx, 0, ef3.rd, [], []⟩, ⟨S.nx, 0, ef4.rd, [], []⟩, ⟨S.nx, 0, ef5.rd, [], []⟩, ⟨S.nx, 0, ef6.rd, [], []⟩, ⟨S.nx, 0, ef7.rd, [], []⟩, ⟨S.nx, 0, ef8.rd, [], []⟩, ⟨S.nx, 0, ef9.rd, [], []⟩] = true ∧ XvStore P 83 (M S.hp S.nx) r9 r8 (fun r10 ef10 => K ⟨[(3, S.get 3), (25, S.get 25), (26, S.get 26), (27, S.get 27)], (Eff.hp ef10 S.nx S.hp), (S.nx + ef10.add.length), S.gh⟩)))))))))))) fun K hK => ?_
      repeat' (first | (refine hK _ ?_; clear hK K) | (refine (?_ : trOk _ _ _ = true); kernel_rfl) | ((first | refine xG_intro (fun hg => ?_) (fun hg => ?_) | refine fun (hg : (_ : Prop)) => ?_) <;> ((try simp only [BQ] at hg); try (exfalso; omega))) | refine And.intro ?_ ?_ | exact cl | refine one_take ?_ _ | refine one_drop ?_ _ | (refine st ?_; try simp only [encC, pairs, getD_encN (show (lp c.bars k).1.toNat < (opens (barsTo c k)).length by omega), hog, encN, hsh, hmc, hol]) | simp only [encC, pairs, getD_encN (show (lp c.bars k).1.toNat < (opens (barsTo c k)).length by omega), hog, encN, hsh, hmc, hol])
      all_goals try simp (disch := omega) only [wrap_id, wrap8_id]
      rw [set_encN, opens_step h5 hkl]
      all_goals
      refine rY [3, 25, 26, 27] (fun P S K => XvBinOV P .add 3 (.const (.int .i64 1)) (S.get 27) (.atom (.int .i64 1)) (fun r0 _ => K ⟨[(3, S.get 3), (25, S.get 25), (26, S.get 26), (27, r0)], S.hp, S.nx, S.gh⟩)) ?_
      all_goals try simp (disch := omega) only [wrap_id, wrap8_id]
      all_goals
      refine ⟨⟨k + 1, by omega⟩, [0, 1], by dsimp only; omega, ?_⟩
      exact leqB21
     ·try (cases h28; done)
      all_goals (try simp only [CQ] at h28)
      all_goals
      refine Tri.exit ?_
      obtain rfl : k = c.bars.length := by omega
      rw [opens_all, ← opens_len c]
      refine sY [2] (fun P S K => K ⟨[(2, (S.get 3))], S.hp, S.nx, S.gh⟩) ?_
      all_goals
      refine Tri.ret ?_
      show ResOk _ _ _ _
      exact ResOk.frz 4 (seal_row rfl rfl (by simp) (pureL_encN _)) (pure_nats _)
theorem lsrB22 {p : Prop} (h : p := by (first | rfl | (simp [St.born, St.known, retV, St.get, St.obj, lk, sealed, PV.ren, renL, rmap, AO.ren, ints, strs, encI, encS, map_sealed_encI, map_sealed_encS, map_sealed_ints, map_sealed_strs, map_ren_encI, map_ren_encS, map_ren_ints, map_ren_strs, renL_encI, renL_encS, renL_ints, renL_strs, ren_case, encC, pairs, renL_encP, map_sealed_encP, map_ren_encP, encP, take_map_len, renL_encN, map_sealed_encN, map_ren_encN, nats]; done)); first | done | fail) : p := h
def withinB (n m : Int) : Bool := decide (0 ≤ n) && decide (n < m)
theorem within_pure (n m : Int) : Pure Try.prog 40 [encI n, encI m] (.atom (.bool (withinB n m))) [] := by
  refine Pure.intro (ts := [4]) Try.func40 (by kernel_rfl) rfl rfl rfl (Nat.le_of_ble_eq_true rfl) ?_ ?_
  · simp [encI, PV.pure, pureL]
  refine sY [0, 1] (fun P S K => K ⟨[(0, S.get 0), (1, S.get 1)], S.hp, S.nx, S.gh⟩) ?_
  all_goals
  refine sZ [4] (fun P S K => XvBinOV P .leq 3 (.tmp 5) (.atom (.int .i64 0)) (S.get 0) (fun r1 _ => Xgq r1 true (fun k => k (S.get 0)) (fun g3 r3 => Xgq g3 true (fun k => k (S.get 1)) (fun g4 r4 => Xgq g4 true (fun k => XvBinOV P .lss 3 (.tmp 9) r3 r4 (fun r5 _ => k r5)) (fun g5 r5 => XvPick g5 r5 (.atom (.bool false)) (fun r6 _ => K ⟨[(4, r6)], S.hp, S.nx, S.gh⟩)))))) fun K hK => ?_
  repeat' (first | (refine hK _ ?_; clear hK K) | ((first | refine xG_intro (fun hg => ?_) (fun hg => ?_) | refine fun (hg : (_ : Prop)) => ?_) <;> ((try simp only [BQ] at hg); try (exfalso; omega))) | refine And.intro ?_ ?_ | exact cl | refine one_take ?_ _ | refine one_drop ?_ _ | refine st ?_)
  all_goals
  refine Tri.ret ?_
  show ResOk _ _ _ _
  unfold withinB
  first
    | (rw [dec_yes (show 0 ≤ n by assumption)]; exact ResOk.val lsrB22 lpvB20)
    | (rw [dec_no (show ¬ 0 ≤ n by assumption)]; exact ResOk.val lsrB22 lpvB20)
theorem size_pure (n : Int) : Pure Try.prog 41 [encI n] (.atom (.bool (badS n))) [] := by
  refine Pure.intro (ts := [2]) Try.func41 (by kernel_rfl) rfl rfl rfl (Nat.le_of_ble_eq_true rfl) ?_ ?_
  · simp [encI, PV.pure, pureL]
  refine sY [0] (fun P S K => K ⟨[(0, S.get 0)], S.hp, S.nx, S.gh⟩) ?_
  all_goals
  refine sZ [2] (fun P S K => XvBinOV P .lss 3 (.const (.int .i64 1)) (S.get 0) (.atom (.int .i64 1)) (fun r1 _ => Xgq r1 false (fun k => k (S.get 0)) (fun g3 r3 => Xgq g3 false (fun k => XvBinOV P .gtr 3 (.const (.int .i64 1024)) r3 (.atom (.int .i64 1024)) (fun r4 _ => k r4)) (fun g4 r4 => XvPick g4 (.atom (.bool true)) r4 (fun r5 _ => K ⟨[(2, r5)], S.hp, S.nx, S.gh⟩))))) fun K hK => ?_
  repeat' (first | (refine hK _ ?_; clear hK K) | ((first | refine xG_intro (fun hg => ?_) (fun hg => ?_) | refine fun (hg : (_ : Prop)) => ?_) <;> ((try simp only [BQ] at hg); try (exfalso; omega))) | refine And.intro ?_ ?_ | exact cl | refine one_take ?_ _ | refine one_drop ?_ _ | refine st ?_)
  all_goals
  refine Tri.ret ?_
  show ResOk _ _ _ _
  unfold badS
  first
    | (rw [dec_yes (show n < 1 by assumption)]; exact ResOk.val lsrB22 lpvB20)
    | (rw [dec_no (show ¬ n < 1 by assumption)]; exact ResOk.val lsrB22 lpvB20)
theorem scant_pure (s : Nat) (h : s < 64) : Pure Try.prog 47 [encN s] (.atom (.bool (decide (popc s < 2)))) [] := by
  refine Pure.intro (ts := [2]) Try.func47 (by kernel_rfl) rfl rfl rfl (Nat.le_of_ble_eq_true rfl) ?_ ?_
  · simp [encN, PV.pure, pureL]
  refine sY [0] (fun P S K => K ⟨[(0, S.get 0)], S.hp, S.nx, S.gh⟩) ?_
  all_goals
  refine sZ [2] (fun P S K => XvFnIV P (M S.hp S.nx) (.fn 48 []) [(S.get 0)] (fun r1 ef1 => XvBinOV P .lss 3 (.const (.int .i64 2)) r1 (.atom (.int .i64 2)) (fun r2 _ => K ⟨[(2, r2)], (Eff.hp ef1 S.nx S.hp), (S.nx + ef1.add.length), S.gh⟩))) fun K hK => ?_
  repeat' (first | (refine hK _ ?_; clear hK K) | refine And.intro ?_ ?_ | exact cl | refine .inl ⟨_, _, ones_pure h, ?_⟩ | (refine st ?_; try simp only [encN]) | simp only [encN])
  all_goals
  refine Tri.ret ?_
  show ResOk _ _ _ _
  rw [show decide (popc s < 2) = decide ((popc s : Int) < 2) from decide_eq_decide.2 (by omega)]
  exact ResOk.val lsrB22 lpvB20
theorem badB_eq (c : CaseD) (b : Int × Int) : badB c b = (!withinB b.1 c.sizes.length || !withinB b.2 c.people) := by
  unfold badB withinB
  rw [Bool.eq_iff_iff]
  simp
  omega
theorem bar_pure (c : CaseD) (b : Int × Int) : Pure Try.prog 42 [encP b, .fptr 1 [.fn 40 []] 0 0, .fptr 3 [encC c] 0 0] (.atom (.bool (badB c b))) [] := by
  refine Pure.intro (ts := [4]) Try.func42 (by kernel_rfl) rfl rfl rfl (Nat.le_of_ble_eq_true rfl) ?_ ?_
  · simp [encP, encI, PV.pure, pureL, pure_case]
  refine sZ [1, 2, 3] (fun P S K => XvBox S.nx (S.get 0) (fun r0 ef0 => K ⟨[(1, S.get 1), (2, S.get 2), (3, r0)], (Eff.hp ef0 S.nx S.hp), (S.nx + ef0.add.length), S.gh⟩)) fun K hK => ?_
  repeat' (first | (refine hK _ ?_; clear hK K) | refine And.intro ?_ ?_ | exact cl | (refine st ?_; try simp only [encC, encP]) | simp only [encC, encP])
  all_goals
  refine sZ [4] (fun P S K => XvLoad P 76 (M S.hp S.nx) (S.get 1) (fun r0 _ => XvIndexAddr P 67 (S.get 3) (.atom (.int .i64 0)) (fun r1 _ => XvLoad P 3 (M S.hp S.nx) r1 (fun r2 _ => XvFieldAddr P 38 0 (S.get 2) (fun r3 _ => XvLoad P 22 (M S.hp S.nx) r3 (fun r4 _ => XvLen P 22 r4 (fun r5 _ => XvFnIV P (M S.hp S.nx) r0 [r2, r5] (fun r6 ef6 => XvUn .not r6 (fun r7 _ => Xgq r7 false (fun k => XvLoad P 76 (M (Eff.hp ef6 S.nx S.hp) (S.nx + ef6.add.length)) (S.get 1) (fun r9 _ => k r9)) (fun g9 r9 => Xgq g9 false (fun k => XvIndexAddr P 67 (S.get 3) (.atom (.int .i64 1)) (fun r10 _ => k r10)) (fun g10 r10 => Xgq g10 false (fun k => XvLoad P 3 (M (Eff.hp ef6 S.nx S.hp) (S.nx + ef6.add.length)) r10 (fun r11 _ => k r11)) (fun g11 r11 => Xgq g11 false (fun k => XvFieldAddr P 38 1 (S.get 2) (fun r12 _ => k r12)) (fun g12 r12 => Xgq g12 false (fun k => XvLoad P 3 (M (Eff.hp ef6 S.nx S.hp) (S.nx + ef6.add.length)) r12 (fun r13 _ => k r13)) (fun g13 r13 => Xge g13 false (fun k => XvFnIV P (M (Eff.hp ef6 S.nx S.hp) (S.nx + ef6.add.length)) r9 [r11, r13] k) (fun g14 r14 ef14 => Xgq g14 false (fun k => XvUn .not r14 (fun r15 _ => k r15)) (fun g15 r15 => XvPick g15 (.atom (.bool true)) r15 (fun r16 _ => K ⟨[(4, r16)], (Eff.hp ef14 (S.nx + ef6.add.length) (Eff.hp ef6 S.nx S.hp)), ((S.nx + ef6.add.length) + ef14.add.length), S.gh⟩))))))))))))))))) fun K hK => ?_
  repeat' (first | (refine hK _ ?_; clear hK K) | ((first | refine xG_intro (fun hg => ?_) (fun hg => ?_) | refine fun (hg : (_ : Prop)) => ?_) <;> ((try simp only [BQ] at hg); try (exfalso; omega))) | refine And.intro ?_ ?_ | exact cl | refine one_take ?_ _ | refine one_drop ?_ _ | refine .inl ⟨_, _, within_pure b.1 c.sizes.length, ?_⟩ | refine .inl ⟨_, _, within_pure b.2 c.people, ?_⟩ | (refine st ?_; try simp only [encC, encP]) | simp only [encC, encP])
  all_goals try simp (disch := omega) only [wrap_id, wrap8_id]
  all_goals
  refine Tri.ret ?_
  show ResOk _ _ _ _
  rw [badB_eq]
  first
    | (rw [show withinB b.1 c.sizes.length = true by assumption]; exact ResOk.val lsrB22 lpvB20)
    | (rw [show withinB b.1 c.sizes.length = false by assumption]; exact ResOk.val lsrB22 lpvB20)
theorem good_bars {c : CaseD} (h : c.bars.any (badB c) = false) : ∀ b, b ∈ c.bars → 0 ≤ b.1 ∧ b.1 < c.sizes.length ∧ 0 ≤ b.2 ∧ b.2 < c.people := fun b hb => by
  have : badB c b = false := by simpa using List.any_eq_false.1 h b hb
  unfold badB at this
  simp at this; omega
theorem opens_lt {c : CaseD} (h : c.people ≤ 6) {x : Nat} (hx : x ∈ opens c) : x < 64 := by
  obtain ⟨i, _, rfl⟩ := List.mem_map.1 hx
  have h1 := maskN_lt (fun (p : Nat) => openB c i p) c.people.toNat
  have h2 : 2 ^ c.people.toNat ≤ 2 ^ 6 := Nat.pow_le_pow_right (by decide) (by omega)
  omega
theorem opens_scant {c : CaseD} (h : c.people ≤ 6) : (opens c).any (fun s => decide (popc s < 2)) = (List.range c.sizes.length).any (scant c) := by
  unfold opens
  rw [List.any_map]
  congr 1
  funext i
  show decide (popc (maskN _ _) < 2) = decide (openN c i c.people.toNat < 2)
  rw [mask_popc _ (by omega)]; rfl
theorem valid_any {c : CaseD} (h : ¬ 64 < c.sizes.length) (h2 : ¬ (c.people < 2 ∨ 6 < c.people)) (h3 : c.sizes.any badS = true ∨ c.bars.any (badB c) = true) : validC c = 1 := by
  unfold validC
  rw [if_neg h, if_neg h2]
  split
  · rfl
  · rw [if_pos (h3.resolve_left (by assumption))]
theorem valid_scants {c : CaseD} (h : ¬ 64 < c.sizes.length) (h2 : ¬ (c.people < 2 ∨ 6 < c.people)) (h3 : c.sizes.any badS = false) (h4 : c.bars.any (badB c) = false) (h5 : (List.range c.sizes.length).any (scant c) = true) : validC c = 6 := by
  unfold validC; rw [if_neg h, if_neg h2, if_neg (by rw [h3]; decide), if_neg (by rw [h4]; decide), if_pos h5]
theorem valid_fine {c : CaseD} (h : ¬ 64 < c.sizes.length) (h2 : ¬ (c.people < 2 ∨ 6 < c.people)) (h3 : c.sizes.any badS = false) (h4 : c.bars.any (badB c) = false) (h5 : (List.range c.sizes.length).any (scant c) = false) : validC c = 0 := by
  unfold validC; rw [if_neg h, if_neg h2, if_neg (by rw [h3]; decide), if_neg (by rw [h4]; decide), if_neg (by rw [h5]; decide)]
theorem aValid_pure (c : CaseD) (hc : Held c) : Pure Try.prog 15 [encC c] (encI (validC c)) [] := by
  have hbl := hc.bars
  have hsl := hc.sizes
  refine Pure.intro (ts := [2]) Try.func15 (by kernel_rfl) rfl rfl rfl (Nat.le_of_ble_eq_true rfl) ?_ ?_
  · simp [pure_case, encI, PV.pure, pureL]
  refine sZ [1] (fun P S K => XvBox S.nx (S.get 0) (fun r0 ef0 => K ⟨[(1, r0)], (Eff.hp ef0 S.nx S.hp), (S.nx + ef0.add.length), S.gh⟩)) fun K hK => ?_
  repeat' (first | (refine hK _ ?_; clear hK K) | refine And.intro ?_ ?_ | exact cl | (refine st ?_; try simp only [encC, pairs]) | simp only [encC, pairs])
  all_goals
  refine Tri.seq ?_
  refine sZ [1, 9] (fun P S K => XvFieldAddr P 38 0 (S.get 1) (fun r0 _ => XvLoad P 22 (M S.hp S.nx) r0 (fun r1 _ => XvLen P 22 r1 (fun r2 _ => XvBinOV P .gtr 3 (.const (.int .i64 64)) r2 (.atom (.int .i64 64)) (fun r3 _ => K ⟨[(1, S.get 1), (9, r3)], S.hp, S.nx, S.gh⟩))))) fun K hK => ?_
  repeat' (first | (refine hK _ ?_; clear hK K) | refine And.intro ?_ ?_ | exact cl | (refine st ?_; try simp only [encC, pairs]) | simp only [encC, pairs])
  all_goals
  refine Tri.cond rfl (fun h9 => ?_) (fun h9 => ?_)
  ·try (cases h9; done)
   all_goals (try simp only [CQ] at h9)
   all_goals
   refine sY [2] (fun P S K => K ⟨[(2, (.atom (.int .i64 4)))], S.hp, S.nx, S.gh⟩) ?_
   all_goals
   refine Tri.ret ?_
   show ResOk _ _ _ _
   rw [valid_many (by omega)]
   exact ResOk.val lsrB22 lpvB20
  ·try (cases h9; done)
   all_goals (try simp only [CQ] at h9)
   all_goals
   refine Tri.skip ?_
   refine sZ [1, 3] (fun P S K => XvAlloc P 76 S.nx (fun r0 ef0 => XvStore P 76 (M (Eff.hp ef0 S.nx S.hp) (S.nx + ef0.add.length)) r0 (.fn 40 []) (fun r1 ef1 => K ⟨[(1, S.get 1), (3, r0)], (Eff.hp ef1 (S.nx + ef0.add.length) (Eff.hp ef0 S.nx S.hp)), ((S.nx + ef0.add.length) + ef1.add.length), S.gh⟩))) fun K hK => ?_
   repeat' (first | (refine hK _ ?_; clear hK K) | refine And.intro ?_ ?_ | exact cl | (refine st ?_; try simp only [encC, pairs]) | simp only [encC, pairs])
   all_goals
   refine sY [1, 3, 4] (fun P S K => K ⟨[(1, S.get 1), (3, S.get 3), (4, (.fn 41 []))], S.hp, S.nx, S.gh⟩) ?_
   all_goals
   refine sZ [1, 4, 5] (fun P S K => XvMakeFV (.func 42) [] [(S.get 3), (S.get 1)] (fun r0 _ => K ⟨[(1, S.get 1), (4, S.get 4), (5, r0)], S.hp, S.nx, S.gh⟩)) fun K hK => ?_
   repeat' (first | (refine hK _ ?_; clear hK K) | ((first | refine xG_intro (fun hg => ?_) (fun hg => ?_) | refine fun (hg : (_ : Prop)) => ?_) <;> ((try simp only [BQ] at hg); try (exfalso; omega))) | refine And.intro ?_ ?_ | exact cl | refine one_take ?_ _ | refine one_drop ?_ _ | (refine st ?_; try simp only [encC, pairs]) | simp only [encC, pairs])
   all_goals
   refine Tri.seq ?_
   refine sZ [1, 30] (fun P S K => XvFieldAddr P 38 1 (S.get 1) (fun r0 _ => XvLoad P 3 (M S.hp S.nx) r0 (fun r1 _ => XvBinOV P .lss 3 (.const (.int .i64 2)) r1 (.atom (.int .i64 2)) (fun r2 _ => Xgq r2 false (fun k => XvFieldAddr P 38 1 (S.get 1) (fun r4 _ => k r4)) (fun g4 r4 => Xgq g4 false (fun k => XvLoad P 3 (M S.hp S.nx) r4 (fun r5 _ => k r5)) (fun g5 r5 => Xgq g5 false (fun k => XvBinOV P .gtr 3 (.const (.int .i64 6)) r5 (.atom (.int .i64 6)) (fun r6 _ => k r6)) (fun g6 r6 => XvPick g6 (.atom (.bool true)) r6 (fun r7 _ => Xgq r7 false (fun k => XvFieldAddr P 38 0 (S.get 1) (fun r9 _ => k r9)) (fun g9 r9 => Xgq g9 false (fun k => XvLoad P 22 (M S.hp S.nx) r9 (fun r10 _ => k r10)) (fun g10 r10 => Xgq g10 false (fun k => k (S.get 4)) (fun g11 r11 => Xge g11 false (fun k => XvFnIV P (M S.hp S.nx) (.fn 43 []) [r10, r11] k) (fun g12 r12 ef12 => XvPick g12 (.atom (.bool true)) r12 (fun r13 _ => Xgq r13 false (fun k => XvFieldAddr P 38 2 (S.get 1) (fun r15 _ => k r15)) (fun g15 r15 => Xgq g15 false (fun k => XvLoad P 23 (M (Eff.hp ef12 S.nx S.hp) (S.nx + ef12.add.length)) r15 (fun r16 _ => k r16)) (fun g16 r16 => Xgq g16 false (fun k => k (S.get 5)) (fun g17 r17 => Xge g17 false (fun k => XvFnIV P (M (Eff.hp ef12 S.nx S.hp) (S.nx + ef12.add.length)) (.fn 44 []) [r16, r17] k) (fun g18 r18 ef18 => XvPick g18 (.atom (.bool true)) r18 (fun r19 _ => K ⟨[(1, S.get 1), (30, r19)], (Eff.hp ef18 (S.nx + ef12.add.length) (Eff.hp ef12 S.nx S.hp)), ((S.nx + ef12.add.length) + ef18.add.length), S.gh⟩)))))))))))))))))) fun K hK => ?_
   repeat' (first | (refine hK _ ?_; clear hK K) | ((first | refine xG_intro (fun hg => ?_) (fun hg => ?_) | refine fun (hg : (_ : Prop)) => ?_) <;> ((try simp only [BQ] at hg); try (exfalso; omega))) | refine And.intro ?_ ?_ | exact cl | refine one_take ?_ _ | refine one_drop ?_ _ | refine .inl ⟨_, _, containsI 41 badS c.sizes (by omega) (fun x _ => size_pure x), ?_⟩ | refine .inl ⟨_, _, containsP 42 (.fptr 1 [.fn 40 []] 0 0) (.fptr 3 [encC c] 0 0) (badB c) c.bars rfl (by simp [PV.pure, pureL, pure_case]) (by omega) (fun x _ => bar_pure c x), ?_⟩ | (refine st ?_; try simp only [encC, pairs]) | simp only [encC, pairs])
   all_goals
   refine Tri.cond rfl (fun h30 => ?_) (fun h30 => ?_)
   ·try (cases h30; done)
    all_goals (try simp only [CQ] at h30)
    all_goals
    refine sY [2] (fun P S K => K ⟨[(2, (.atom (.int .i64 1)))], S.hp, S.nx, S.gh⟩) ?_
    all_goals
    refine Tri.ret ?_
    show ResOk _ _ _ _
    first
    | (rw [valid_people (by omega) (by omega)]; exact ResOk.val lsrB22 lpvB20)
    | (rw [valid_any (by omega) (by omega) (.inl (by assumption))]; exact ResOk.val lsrB22 lpvB20)
    | (rw [valid_any (by omega) (by omega) (.inr (by assumption))]; exact ResOk.val lsrB22 lpvB20)
   ·try (cases h30; done)
    all_goals (try simp only [CQ] at h30)
    all_goals
    refine Tri.skip ?_
    refine Tri.seq ?_
    have hpp : 2 ≤ c.people ∧ c.people ≤ 6 := by omega
    have hSz : c.sizes.any badS = false := by assumption
    have hBr : c.bars.any (badB c) = false := by assumption
    have h5 : Good5 c := ⟨by omega, hpp.1, hpp.2, good_bars hBr⟩
    have hsc : ∀ x, x ∈ opens c → Pure Try.prog 47 [encN x] (.atom (.bool (decide (popc x < 2)))) [] := fun x hx => scant_pure x (opens_lt hpp.2 hx)
    refine sZ [33] (fun P S K => XvLoad P 38 (M S.hp S.nx) (S.get 1) (fun r0 _ => XvFnIV P (M S.hp S.nx) (.fn 46 []) [r0] (fun r1 ef1 => XvFnIV P (M (Eff.hp ef1 S.nx S.hp) (S.nx + ef1.add.length)) (.fn 45 []) [r1, (.fn 47 [])] (fun r2 ef2 => K ⟨[(33, r2)], (Eff.hp ef2 (S.nx + ef1.add.length) (Eff.hp ef1 S.nx S.hp)), ((S.nx + ef1.add.length) + ef2.add.length), S.gh⟩)))) fun K hK => ?_
    repeat' (first | (refine hK _ ?_; clear hK K) | refine And.intro ?_ ?_ | exact cl | refine .inl ⟨_, _, open_pure c h5 (by omega), ?_⟩ | refine .inl ⟨_, _, containsU 47 (fun s => decide (popc s < 2)) (opens c) (by rw [opens_len]; omega) hsc, ?_⟩ | (refine st ?_; try simp only [encC, pairs, nats, renL_encN, opens_scant hpp.2]) | simp only [encC, pairs, nats, renL_encN, opens_scant hpp.2])
    all_goals
    refine Tri.cond rfl (fun h33 => ?_) (fun h33 => ?_)
    ·try (cases h33; done)
     all_goals (try simp only [CQ] at h33)
     all_goals
     refine sY [2] (fun P S K => K ⟨[(2, (.atom (.int .i64 6)))], S.hp, S.nx, S.gh⟩) ?_
     all_goals
     refine Tri.ret ?_
     show ResOk _ _ _ _
     rw [valid_scants (by omega) (by omega) hSz hBr (by assumption)]
     exact ResOk.val lsrB22 lpvB20
    ·try (cases h33; done)
     all_goals (try simp only [CQ] at h33)
     all_goals
     refine Tri.skip ?_
     refine sY [2] (fun P S K => K ⟨[(2, (.atom (.int .i64 0)))], S.hp, S.nx, S.gh⟩) ?_
     all_goals
     refine Tri.ret ?_
     show ResOk _ _ _ _
     rw [valid_fine (by omega) (by omega) hSz hBr (by assumption)]
     exact ResOk.val lsrB22 lpvB20
end Go.Proofs.Ytcdeilgijleoaaa
