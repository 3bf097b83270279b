/-
  Walks: Made of the reference model; it is valid.
-/
import Derived.Test.YtcdeilgijleoaaaWA1
import Derived.Test.YtcdeilgijleoaaaWB15
set_option linter.all false
namespace Go.Proofs.Ytcdeilgijleoaaa
open Go Go.RowKit
set_option maxRecDepth 20000
set_option maxHeartbeats 1000000
theorem leqB16 {p : Prop} (h : p := by (refine ⟨4, ?_, ?_, rfl, by simp, rfl, fun _ h _ => absurd h (Nat.not_lt_zero _)⟩ <;> (simp only [List.forall_mem_cons]; repeat' (first | refine And.intro ?_ ?_ | (intro p hp; exact absurd hp List.not_mem_nil) | rfl | exact sp (pure_case _) | exact sp (pure_pairs _) | exact sp (pure_cert _) | exact (sealed_pure _ _ _ (pure_ints _)).trans (ren_ints _ _).symm | exact (sealed_pure _ _ _ (pure_strs _)).trans (ren_strs _ _).symm | exact sp (by assumption) | (intro o ho; cases ho; refine ⟨by decide, ?_⟩; first | (refine LeqS.row rfl ?_ ?_; (next => (first | rfl | (simp only [List.map_append, List.map_cons, List.map_nil, List.append_nil, List.nil_append, List.append_assoc, List.cons_append, encI, encS, ints, strs]; done) | (simp [encI, encS, ints, strs, encP, addSize, addBar]; done))); (next => (first | rfl | exact pureL_encI _ | exact pureL_encS _ | exact pureL_ints _ | exact pureL_strs _ | exact pureL_encP _ | (simp [pureL_append, pureL_encI, pureL_encS, pureL_ints, pureL_strs, pureL, PV.pure, pure_ints, pure_strs, pure_case, pureL_encP, pure_pairs, pure_cert]; done))); done) | refine ⟨_, rfl, rfl, ?_⟩) | (simp [St.born, St.known, retV, St.get, St.obj, lk, sealed, PV.ren, renL, rmap, AO.ren, ints, strs, encI, encS, map_sealed_encI, map_sealed_encS, map_sealed_ints, map_sealed_strs, map_ren_encI, map_ren_encS, map_ren_ints, map_ren_strs, renL_encI, renL_encS, renL_ints, renL_strs, ren_case, encC, pairs, renL_encP, map_sealed_encP, map_ren_encP, encP, take_map_len, encCert, zeroCase, addSize, addBar] <;> omega)))); first | done | fail) : p := h
def zeroCase : PV := .agg [.atom (.slice none 0 0), .atom (.int .i64 0), .atom (.slice none 0 0)]
theorem atI_lo {l : List Int} {i m : Int} (hm : 0 < m) : 0 ≤ atI l i m := by
  unfold atI; split
  · exact Int.le_refl _
  · exact around_lo hm
theorem atI_hi {l : List Int} {i m : Int} (hm : 0 < m) : atI l i m < m := by
  unfold atI; split
  · exact hm
  · exact around_hi hm
def addBar (c : CaseD) (i p : Nat) : CaseD := ⟨c.sizes, c.people, c.bars ++ [((i : Int), (p : Int))]⟩
def addSize (c : CaseD) (n : Int) : CaseD := ⟨c.sizes ++ [n], c.people, c.bars⟩
def barB (l : List Int) (i p : Nat) : Bool := decide (bits .and .i64 ((atI l (4 + 2 * (i : Int)) 64).fdiv (2 ^ min p 64)) 3 = 3)
def madeB (l : List Int) (i : Nat) (c : CaseD) : Nat → CaseD
  | 0 => c
  | p + 1 => if barB l i p = true ∧ validC (addBar (madeB l i c p) i p) = 0 then addBar (madeB l i c p) i p else madeB l i c p
def madeI (l : List Int) (people : Int) : Nat → CaseD
  | 0 => ⟨[], people, []⟩
  | i + 1 => madeB l i (addSize (madeI l people i) (1 + atI l (3 + 2 * (i : Int)) 9)) people.toNat
def madeN (l : List Int) : Int := if atI l 0 4 = 0 then 5 + atI l 1 2 else 2 + atI l 1 3
def madeM (l : List Int) : Int := if atI l 0 4 = 0 then atI l 2 5 else if atI l 0 4 = 1 then 7 + atI l 2 6 else atI l 2 7
def madeC (l : List Int) : CaseD := madeI l (madeN l) (madeM l).toNat
theorem madeN_rng (l : List Int) : 2 ≤ madeN l ∧ madeN l ≤ 6 := by
  have h1 := atI_lo (l := l) (i := 1) (m := 2) (by decide)
  have h2 := atI_hi (l := l) (i := 1) (m := 2) (by decide)
  have h3 := atI_lo (l := l) (i := 1) (m := 3) (by decide)
  have h4 := atI_hi (l := l) (i := 1) (m := 3) (by decide)
  unfold madeN; split <;> omega
theorem madeM_rng (l : List Int) : 0 ≤ madeM l ∧ madeM l ≤ 12 := by
  have h1 := atI_lo (l := l) (i := 2) (m := 5) (by decide)
  have h2 := atI_hi (l := l) (i := 2) (m := 5) (by decide)
  have h3 := atI_lo (l := l) (i := 2) (m := 6) (by decide)
  have h4 := atI_hi (l := l) (i := 2) (m := 6) (by decide)
  have h5 := atI_lo (l := l) (i := 2) (m := 7) (by decide)
  have h6 := atI_hi (l := l) (i := 2) (m := 7) (by decide)
  unfold madeM; split
  · omega
  · split <;> omega
theorem openN_all {c : CaseD} {i : Int} (h : ∀ p : Int, openB c i p = true) : ∀ k, openN c i k = k
  | 0 => rfl
  | k + 1 => by rw [openN_succ, openN_all h k, h, if_pos rfl]
theorem good_size {c : CaseD} {n : Int} (h : Good c) (hl : c.sizes.length < 64) (hn : 1 ≤ n ∧ n ≤ 1024) : Good (addSize c n) := by
  have hlen : (addSize c n).sizes.length = c.sizes.length + 1 := by simp [addSize]
  refine ⟨by omega, h.lo, h.hi, fun x hx => ?_, fun b hb => ?_, fun i hi => ?_⟩
  · rcases List.mem_append.1 hx with hx | hx
    · exact h.size x hx
    · rw [List.mem_singleton.1 hx]; exact hn
  · have := h.bar b hb
    rw [hlen]
    show 0 ≤ b.1 ∧ b.1 < ((c.sizes.length + 1 : Nat) : Int) ∧ 0 ≤ b.2 ∧ b.2 < c.people
    omega
  · rcases Nat.lt_or_ge i c.sizes.length with hc | hc
    · exact h.some i hc
    · have e : openN (addSize c n) i (addSize c n).people.toNat = c.people.toNat := openN_all (fun p => by
        refine openB_yes fun k hk hb => ?_
        have := h.bar _ (lp_mem (l := c.bars) hk)
        have e1 : (lp c.bars k).1 = (i : Int) := hb.1
        omega) _
      rw [e]; have := h.lo; omega
theorem madeB_good {l : List Int} {i : Nat} {c : CaseD} (h : Good c) : ∀ p, Good (madeB l i c p) ∧ (madeB l i c p).sizes = c.sizes ∧ (madeB l i c p).people = c.people ∧ (madeB l i c p).bars.length ≤ c.bars.length + p
  | 0 => ⟨h, rfl, rfl, Nat.le_refl _⟩
  | p + 1 => by
    obtain ⟨h1, h2, h3, h4⟩ := madeB_good h (l := l) (i := i) p
    rw [madeB]
    split
    · rename_i g
      exact ⟨valid_good g.2, h2, h3, by simp [addBar]; omega⟩
    · exact ⟨h1, h2, h3, by omega⟩
theorem madeI_good {l : List Int} {people : Int} (h2 : 2 ≤ people) (h6 : people ≤ 6) : ∀ i, i ≤ 64 → Good (madeI l people i) ∧ (madeI l people i).sizes.length = i ∧ (madeI l people i).people = people ∧ (madeI l people i).bars.length ≤ 6 * i
  | 0, _ => ⟨⟨Nat.zero_le _, h2, h6, fun x hx => (by cases hx), fun x hx => (by cases hx), fun i hi => absurd hi (Nat.not_lt_zero _)⟩, rfl, rfl, Nat.le_refl _⟩
  | i + 1, hi => by
    obtain ⟨g1, g2, g3, g4⟩ := madeI_good (l := l) h2 h6 i (by omega)
    have a1 := atI_lo (l := l) (i := 3 + 2 * (i : Int)) (m := 9) (by decide)
    have a2 := atI_hi (l := l) (i := 3 + 2 * (i : Int)) (m := 9) (by decide)
    obtain ⟨k1, k2, k3, k4⟩ := madeB_good (l := l) (i := i) (good_size (n := 1 + atI l (3 + 2 * (i : Int)) 9) g1 (by omega) (by omega)) people.toNat
    refine ⟨k1, ?_, k3.trans g3, ?_⟩
    · show (madeB l i _ _).sizes.length = _
      rw [k2]; simp [addSize, g2]
    · show (madeB l i _ _).bars.length ≤ _
      have : (addSize (madeI l people i) (1 + atI l (3 + 2 * (i : Int)) 9)).bars = (madeI l people i).bars := rfl
      rw [this] at k4; omega
theorem made_good (l : List Int) : Good (madeC l) := (madeI_good (madeN_rng l).1 (madeN_rng l).2 _ (by have := madeM_rng l; omega)).1
theorem held_of_good {c : CaseD} (h : Good c) (hb : c.bars.length ≤ 1000000) : Held c := by
  have h1 := h.many
  refine ⟨by omega, hb, ?_, fun x hx => ?_, fun p hp => ?_⟩
  · have := h.lo; have := h.hi; unfold I64; omega
  · have := h.size x hx; unfold I64; omega
  · have := h.bar p hp; have := h.hi; unfold I64; omega
structure Good4 (c : CaseD) : Prop where
  many : c.sizes.length ≤ 64
  lo : 2 ≤ c.people
  hi : c.people ≤ 6
  size : ∀ x, x ∈ c.sizes → 1 ≤ x ∧ x ≤ 1024
theorem held_of_good' {c d : CaseD} (h : Good4 c) (hb : d.bars.length ≤ 1000000) (hp : ∀ p, p ∈ d.bars → I64 p.1 ∧ I64 p.2) (hs : d.sizes = c.sizes := by rfl) (hpp : d.people = c.people := by rfl) : Held d := by
  have h1 := h.many
  refine ⟨by rw [hs]; omega, hb, ?_, fun x hx => ?_, hp⟩
  · rw [hpp]; have := h.lo; have := h.hi; unfold I64; omega
  · rw [hs] at hx; have := h.size x hx; unfold I64; omega
theorem made_held (l : List Int) : Held (madeC l) := held_of_good (made_good l) (by
  have := (madeI_good (l := l) (madeN_rng l).1 (madeN_rng l).2 (madeM l).toNat (by have := madeM_rng l; omega)).2.2.2
  have := madeM_rng l
  show (madeI l (madeN l) (madeM l).toNat).bars.length ≤ _; omega)
theorem made_sizes (l : List Int) : (madeC l).sizes.length = (madeM l).toNat := (madeI_good (madeN_rng l).1 (madeN_rng l).2 _ (by have := madeM_rng l; omega)).2.1
theorem made_bars (l : List Int) : (madeC l).bars.length ≤ 72 := by
  have := (madeI_good (l := l) (madeN_rng l).1 (madeN_rng l).2 (madeM l).toNat (by have := madeM_rng l; omega)).2.2.2
  have := madeM_rng l
  show (madeI l (madeN l) (madeM l).toNat).bars.length ≤ _; omega
theorem mk_0 {l : List Int} (h : atI l 0 4 = 0) : madeN l = 5 + atI l 1 2 ∧ madeM l = atI l 2 5 := ⟨if_pos h, if_pos h⟩
theorem mk_1 {l : List Int} (h : atI l 0 4 = 1) : madeN l = 2 + atI l 1 3 ∧ madeM l = 7 + atI l 2 6 := by
  unfold madeN madeM; rw [if_neg (by omega), if_neg (by omega), if_pos h]; exact ⟨rfl, rfl⟩
theorem mk_2 {l : List Int} (h : ¬ atI l 0 4 = 0) (h2 : ¬ atI l 0 4 = 1) : madeN l = 2 + atI l 1 3 ∧ madeM l = atI l 2 7 := by
  unfold madeN madeM; rw [if_neg h, if_neg h, if_neg h2]; exact ⟨rfl, rfl⟩
theorem mk_N {l : List Int} (h : ¬ atI l 0 4 = 0) : madeN l = 2 + atI l 1 3 := if_neg h
theorem Made_pure (l : List Int) (hl : Fits l) : Pure Try.prog 10 [ints l] (encC (madeC l)) [] := by
  have h1 := atI_lo (l := l) (i := 1) (m := 2) (by decide)
  have h2 := atI_hi (l := l) (i := 1) (m := 2) (by decide)
  have h3 := atI_lo (l := l) (i := 1) (m := 3) (by decide)
  have h4 := atI_hi (l := l) (i := 1) (m := 3) (by decide)
  have h5 := atI_lo (l := l) (i := 2) (m := 6) (by decide)
  have h6 := atI_hi (l := l) (i := 2) (m := 6) (by decide)
  have h7 := atI_lo (l := l) (i := 2) (m := 7) (by decide)
  have h8 := atI_hi (l := l) (i := 2) (m := 7) (by decide)
  have h9 := atI_lo (l := l) (i := 2) (m := 5) (by decide)
  have h0 := atI_hi (l := l) (i := 2) (m := 5) (by decide)
  have hN := madeN_rng l
  have hM := madeM_rng l
  have hfin : madeC l = madeI l (madeN l) (madeM l).toNat := rfl
  refine Pure.introR (rv := [.cell 2 25]) Try.func10 (by kernel_rfl) rfl rfl rfl (Nat.le_of_ble_eq_true rfl) ?_ ?_
  · simp [pure_ints, pure_strs, encI, encS, PV.pure, pureL]
  refine sZ [0, 2] (fun P S K => XvAlloc P 25 S.nx (fun r0 ef0 => K ⟨[(0, S.get 0), (2, r0)], (Eff.hp ef0 S.nx S.hp), (S.nx + ef0.add.length), S.gh⟩)) fun K hK => ?_
  repeat' (first | (refine hK _ ?_; clear hK K) | refine And.intro ?_ ?_ | exact cl | exact one_encP _ | (refine st ?_; try simp only [encC, pairs, zeroCase]) | simp only [encC, pairs, zeroCase])
  all_goals
  refine sZ [0, 2, 3] (fun P S K => XvFnIV P (M S.hp S.nx) (.fn 36 []) [(S.get 0), (.atom (.int .i64 0)), (.atom (.int .i64 4))] (fun r1 ef1 => K ⟨[(0, S.get 0), (2, S.get 2), (3, r1)], (Eff.hp ef1 S.nx S.hp), (S.nx + ef1.add.length), S.gh⟩)) fun K hK => ?_
  repeat' (first | (refine hK _ ?_; clear hK K) | refine And.intro ?_ ?_ | exact cl | exact one_encP _ | refine .inl ⟨_, _, At_pure l 0 4 hl (by unfold I64; omega) (by decide), ?_⟩ | refine .inl ⟨_, _, At_pure l 1 3 hl (by unfold I64; omega) (by decide), ?_⟩ | refine .inl ⟨_, _, At_pure l 2 7 hl (by unfold I64; omega) (by decide), ?_⟩ | refine .inl ⟨_, _, At_pure l 1 2 hl (by unfold I64; omega) (by decide), ?_⟩ | refine .inl ⟨_, _, At_pure l 2 5 hl (by unfold I64; omega) (by decide), ?_⟩ | refine .inl ⟨_, _, At_pure l 2 6 hl (by unfold I64; omega) (by decide), ?_⟩ | refine .inl ⟨_, _, At_pure l (3 + 2 * (i : Int)) 9 hl (by unfold I64; omega) (by decide), ?_⟩ | refine .inl ⟨_, _, At_pure l (4 + 2 * (i : Int)) 64 hl (by unfold I64; omega) (by decide), ?_⟩ | refine .inl ⟨_, _, hV, ?_⟩ | (refine st ?_; try simp only [encC, pairs, zeroCase]) | simp only [encC, pairs, zeroCase])
  all_goals
  refine sZ [0, 2, 3, 4] (fun P S K => XvFnIV P (M S.hp S.nx) (.fn 36 []) [(S.get 0), (.atom (.int .i64 1)), (.atom (.int .i64 3))] (fun r1 ef1 => XvBinOV P .add 3 (.tmp 12) (.atom (.int .i64 2)) r1 (fun r2 _ => XvBuild P 25 [(1, r2)] (fun r3 _ => XvAlloc P 25 (S.nx + ef1.add.length) (fun r4 ef4 => XvStore P 25 (M (Eff.hp ef4 (S.nx + ef1.add.length) (Eff.hp ef1 S.nx S.hp)) ((S.nx + ef1.add.length) + ef4.add.length)) r4 r3 (fun r5 ef5 => K ⟨[(0, S.get 0), (2, S.get 2), (3, S.get 3), (4, r4)], (Eff.hp ef5 ((S.nx + ef1.add.length) + ef4.add.length) (Eff.hp ef4 (S.nx + ef1.add.length) (Eff.hp ef1 S.nx S.hp))), (((S.nx + ef1.add.length) + ef4.add.length) + ef5.add.length), S.gh⟩)))))) fun K hK => ?_
  repeat' (first | (refine hK _ ?_; clear hK K) | refine And.intro ?_ ?_ | exact cl | exact one_encP _ | refine .inl ⟨_, _, At_pure l 0 4 hl (by unfold I64; omega) (by decide), ?_⟩ | refine .inl ⟨_, _, At_pure l 1 3 hl (by unfold I64; omega) (by decide), ?_⟩ | refine .inl ⟨_, _, At_pure l 2 7 hl (by unfold I64; omega) (by decide), ?_⟩ | refine .inl ⟨_, _, At_pure l 1 2 hl (by unfold I64; omega) (by decide), ?_⟩ | refine .inl ⟨_, _, At_pure l 2 5 hl (by unfold I64; omega) (by decide), ?_⟩ | refine .inl ⟨_, _, At_pure l 2 6 hl (by unfold I64; omega) (by decide), ?_⟩ | refine .inl ⟨_, _, At_pure l (3 + 2 * (i : Int)) 9 hl (by unfold I64; omega) (by decide), ?_⟩ | refine .inl ⟨_, _, At_pure l (4 + 2 * (i : Int)) 64 hl (by unfold I64; omega) (by decide), ?_⟩ | refine .inl ⟨_, _, hV, ?_⟩ | (refine st ?_; try simp only [encC, pairs, zeroCase]) | simp only [encC, pairs, zeroCase])
  all_goals try simp (disch := omega) only [wrap_id, wrap8_id]
  all_goals
  refine sZ [0, 2, 3, 4, 5] (fun P S K => XvFnIV P (M S.hp S.nx) (.fn 36 []) [(S.get 0), (.atom (.int .i64 2)), (.atom (.int .i64 7))] (fun r1 ef1 => K ⟨[(0, S.get 0), (2, S.get 2), (3, S.get 3), (4, S.get 4), (5, r1)], (Eff.hp ef1 S.nx S.hp), (S.nx + ef1.add.length), S.gh⟩)) fun K hK => ?_
  repeat' (first | (refine hK _ ?_; clear hK K) | refine And.intro ?_ ?_ | exact cl | exact one_encP _ | refine .inl ⟨_, _, At_pure l 0 4 hl (by unfold I64; omega) (by decide), ?_⟩ | refine .inl ⟨_, _, At_pure l 1 3 hl (by unfold I64; omega) (by decide), ?_⟩ | refine .inl ⟨_, _, At_pure l 2 7 hl (by unfold I64; omega) (by decide), ?_⟩ | refine .inl ⟨_, _, At_pure l 1 2 hl (by unfold I64; omega) (by decide), ?_⟩ | refine .inl ⟨_, _, At_pure l 2 5 hl (by unfold I64; omega) (by decide), ?_⟩ | refine .inl ⟨_, _, At_pure l 2 6 hl (by unfold I64; omega) (by decide), ?_⟩ | refine .inl ⟨_, _, At_pure l (3 + 2 * (i : Int)) 9 hl (by unfold I64; omega) (by decide), ?_⟩ | refine .inl ⟨_, _, At_pure l (4 + 2 * (i : Int)) 64 hl (by unfold I64; omega) (by decide), ?_⟩ | refine .inl ⟨_, _, hV, ?_⟩ | (refine st ?_; try simp only [encC, pairs, zeroCase]) | simp only [encC, pairs, zeroCase])
  all_goals
  refine Tri.cut (α := (mm : Int) ×' (0 ≤ mm ∧ mm ≤ 12 ∧ (¬ atI l 0 4 = 1 → madeM l = mm))) (fun ⟨mm, hm0, hm1, hm2⟩ => ⟨[(0, ints l), (2, .ptr 0 3 0 0), (3, encI (atI l 0 4)), (4, .ptr 1 3 0 0), (5, encI mm)], [(0, some ⟨3, [zeroCase]⟩), (1, some ⟨3, [.agg [.atom (.slice none 0 0), encI (madeN l), .atom (.slice none 0 0)]]⟩)], 2, []⟩) ?_ ?_
  ·skip
   refine sZ [0, 2, 3, 4, 5, 18] (fun P S K => XvBinOV P .eql 3 (.const (.int .i64 0)) (S.get 3) (.atom (.int .i64 0)) (fun r1 _ => K ⟨[(0, S.get 0), (2, S.get 2), (3, S.get 3), (4, S.get 4), (5, S.get 5), (18, r1)], S.hp, S.nx, S.gh⟩)) fun K hK => ?_
   repeat' (first | (refine hK _ ?_; clear hK K) | refine And.intro ?_ ?_ | exact cl | exact one_encP _ | (refine st ?_; try simp only [encC, pairs, zeroCase]) | simp only [encC, pairs, zeroCase])
   all_goals
   refine Tri.cond rfl (fun h18 => ?_) (fun h18 => ?_)
   ·try (cases h18; done)
    all_goals (try simp only [CQ] at h18)
    all_goals
    refine sZ [0, 2, 3, 4] (fun P S K => XvFnIV P (M S.hp S.nx) (.fn 36 []) [(S.get 0), (.atom (.int .i64 1)), (.atom (.int .i64 2))] (fun r1 ef1 => XvBinOV P .add 3 (.tmp 20) (.atom (.int .i64 5)) r1 (fun r2 _ => XvFieldAddr P 25 1 (S.get 4) (fun r3 _ => XvStore P 3 (M (Eff.hp ef1 S.nx S.hp) (S.nx + ef1.add.length)) r3 r2 (fun r4 ef4 => K ⟨[(0, S.get 0), (2, S.get 2), (3, S.get 3), (4, S.get 4)], (Eff.hp ef4 (S.nx + ef1.add.length) (Eff.hp ef1 S.nx S.hp)), ((S.nx + ef1.add.length) + ef4.add.length), S.gh⟩))))) fun K hK => ?_
    repeat' (first | (refine hK _ ?_; clear hK K) | refine And.intro ?_ ?_ | exact cl | exact one_encP _ | refine .inl ⟨_, _, At_pure l 0 4 hl (by unfold I64; omega) (by decide), ?_⟩ | refine .inl ⟨_, _, At_pure l 1 3 hl (by unfold I64; omega) (by decide), ?_⟩ | refine .inl ⟨_, _, At_pure l 2 7 hl (by unfold I64; omega) (by decide), ?_⟩ | refine .inl ⟨_, _, At_pure l 1 2 hl (by unfold I64; omega) (by decide), ?_⟩ | refine .inl ⟨_, _, At_pure l 2 5 hl (by unfold I64; omega) (by decide), ?_⟩ | refine .inl ⟨_, _, At_pure l 2 6 hl (by unfold I64; omega) (by decide), ?_⟩ | refine .inl ⟨_, _, At_pure l (3 + 2 * (i : Int)) 9 hl (by unfold I64; omega) (by decide), ?_⟩ | refine .inl ⟨_, _, At_pure l (4 + 2 * (i : Int)) 64 hl (by unfold I64; omega) (by decide), ?_⟩ | refine .inl ⟨_, _, hV, ?_⟩ | (refine st ?_; try simp only [encC, pairs, zeroCase]) | simp only [encC, pairs, zeroCase])
    all_goals try simp (disch := omega) only [wrap_id, wrap8_id]
    all_goals
    refine rZ [0, 2, 3, 4, 5] (fun P S K => XvFnIV P (M S.hp S.nx) (.fn 36 []) [(S.get 0), (.atom (.int .i64 2)), (.atom (.int .i64 5))] (fun r1 ef1 => K ⟨[(0, S.get 0), (2, S.get 2), (3, S.get 3), (4, S.get 4), (5, r1)], (Eff.hp ef1 S.nx S.hp), (S.nx + ef1.add.length), S.gh⟩)) fun K hK => ?_
    repeat' (first | (refine hK _ ?_; clear hK K) | refine And.intro ?_ ?_ | exact cl | exact one_encP _ | refine .inl ⟨_, _, At_pure l 0 4 hl (by unfold I64; omega) (by decide), ?_⟩ | refine .inl ⟨_, _, At_pure l 1 3 hl (by unfold I64; omega) (by decide), ?_⟩ | refine .inl ⟨_, _, At_pure l 2 7 hl (by unfold I64; omega) (by decide), ?_⟩ | refine .inl ⟨_, _, At_pure l 1 2 hl (by unfold I64; omega) (by decide), ?_⟩ | refine .inl ⟨_, _, At_pure l 2 5 hl (by unfold I64; omega) (by decide), ?_⟩ | refine .inl ⟨_, _, At_pure l 2 6 hl (by unfold I64; omega) (by decide), ?_⟩ | refine .inl ⟨_, _, At_pure l (3 + 2 * (i : Int)) 9 hl (by unfold I64; omega) (by decide), ?_⟩ | refine .inl ⟨_, _, At_pure l (4 + 2 * (i : Int)) 64 hl (by unfold I64; omega) (by decide), ?_⟩ | refine .inl ⟨_, _, hV, ?_⟩ | (refine st ?_; try simp only [encC, pairs, zeroCase]) | simp only [encC, pairs, zeroCase])
    all_goals
    first | rw [(mk_0 (by assumption)).1] | rw [mk_N (by assumption)]
    refine ⟨(by first | exact ⟨atI l 2 5, by omega, by omega, fun _ => (mk_0 (by assumption)).2⟩ | exact ⟨atI l 2 7, by omega, by omega, fun h => (mk_2 (by assumption) h).2⟩), [0, 1], ?_⟩
    exact leqB16
   ·try (cases h18; done)
    all_goals (try simp only [CQ] at h18)
    all_goals
    refine Tri.skip ?_
    first | rw [(mk_0 (by assumption)).1] | rw [mk_N (by assumption)]
    refine ⟨(by first | exact ⟨atI l 2 5, by omega, by omega, fun _ => (mk_0 (by assumption)).2⟩ | exact ⟨atI l 2 7, by omega, by omega, fun h => (mk_2 (by assumption) h).2⟩), [0, 1], ?_⟩
    exact leqB16
  ·rintro ⟨mm, hm0, hm1, hm2⟩
   refine Tri.cut (α := Unit) (fun ⟨⟩ => ⟨[(0, ints l), (2, .ptr 0 3 0 0), (4, .ptr 1 3 0 0), (5, encI (madeM l))], [(0, some ⟨3, [zeroCase]⟩), (1, some ⟨3, [.agg [.atom (.slice none 0 0), encI (madeN l), .atom (.slice none 0 0)]]⟩)], 2, []⟩) ?_ ?_
   ·skip
    refine sZ [0, 2, 4, 5, 26] (fun P S K => XvBinOV P .eql 3 (.const (.int .i64 1)) (S.get 3) (.atom (.int .i64 1)) (fun r1 _ => K ⟨[(0, S.get 0), (2, S.get 2), (4, S.get 4), (5, S.get 5), (26, r1)], S.hp, S.nx, S.gh⟩)) fun K hK => ?_
    repeat' (first | (refine hK _ ?_; clear hK K) | refine And.intro ?_ ?_ | exact cl | exact one_encP _ | (refine st ?_; try simp only [encC, pairs, zeroCase]) | simp only [encC, pairs, zeroCase])
    all_goals
    refine Tri.cond rfl (fun h26 => ?_) (fun h26 => ?_)
    ·try (cases h26; done)
     all_goals (try simp only [CQ] at h26)
     all_goals
     refine rZ [0, 2, 4, 5] (fun P S K => XvFnIV P (M S.hp S.nx) (.fn 36 []) [(S.get 0), (.atom (.int .i64 2)), (.atom (.int .i64 6))] (fun r1 ef1 => XvBinOV P .add 3 (.tmp 28) (.atom (.int .i64 7)) r1 (fun r2 _ => K ⟨[(0, S.get 0), (2, S.get 2), (4, S.get 4), (5, r2)], (Eff.hp ef1 S.nx S.hp), (S.nx + ef1.add.length), S.gh⟩))) fun K hK => ?_
     repeat' (first | (refine hK _ ?_; clear hK K) | refine And.intro ?_ ?_ | exact cl | exact one_encP _ | refine .inl ⟨_, _, At_pure l 0 4 hl (by unfold I64; omega) (by decide), ?_⟩ | refine .inl ⟨_, _, At_pure l 1 3 hl (by unfold I64; omega) (by decide), ?_⟩ | refine .inl ⟨_, _, At_pure l 2 7 hl (by unfold I64; omega) (by decide), ?_⟩ | refine .inl ⟨_, _, At_pure l 1 2 hl (by unfold I64; omega) (by decide), ?_⟩ | refine .inl ⟨_, _, At_pure l 2 5 hl (by unfold I64; omega) (by decide), ?_⟩ | refine .inl ⟨_, _, At_pure l 2 6 hl (by unfold I64; omega) (by decide), ?_⟩ | refine .inl ⟨_, _, At_pure l (3 + 2 * (i : Int)) 9 hl (by unfold I64; omega) (by decide), ?_⟩ | refine .inl ⟨_, _, At_pure l (4 + 2 * (i : Int)) 64 hl (by unfold I64; omega) (by decide), ?_⟩ | refine .inl ⟨_, _, hV, ?_⟩ | (refine st ?_; try simp only [encC, pairs, zeroCase]) | simp only [encC, pairs, zeroCase])
     all_goals try simp (disch := omega) only [wrap_id, wrap8_id]
     all_goals
     first | rw [(mk_1 (by assumption)).2] | rw [hm2 (by assumption)]
     refine ⟨(), [0, 1], ?_⟩
     exact leqB16
    ·try (cases h26; done)
     all_goals (try simp only [CQ] at h26)
     all_goals
     refine Tri.skip ?_
     first | rw [(mk_1 (by assumption)).2] | rw [hm2 (by assumption)]
     refine ⟨(), [0, 1], ?_⟩
     exact leqB16
   ·rintro ⟨⟩
    refine Tri.seq ?_
    refine Tri.bornF 1 0 1 3 _ rfl rfl ?_
    refine Tri.bornF 1 2 2 3 _ rfl rfl ?_
    generalize hNe : madeN l = N at hN hfin ⊢
    generalize hMe : madeM l = M0 at hM hfin ⊢
    refine sZ [0, 2, 4, 5, 6] (fun P S K => K ⟨[(0, S.get 0), (2, S.get 2), (4, S.get 4), (5, S.get 5), (6, (.atom (.int .i64 0)))], S.hp, S.nx, S.gh⟩) fun K hK => ?_
    repeat' (first | (refine hK _ ?_; clear hK K) | refine And.intro ?_ ?_ | exact cl | exact one_encP _ | (refine st ?_; try simp only [encC, pairs, zeroCase]) | simp only [encC, pairs, zeroCase])
    all_goals
    refine Tri.block ?_
    refine Tri.loop (α := (d0 : CaseD) ×' (i : Nat) ×' ((i : Int) ≤ M0 ∧ d0 = madeI l N i)) (fun z => (fun (d0 : CaseD) (i : Nat) => (⟨[(0, ints l), (2, .ptr 0 3 0 0), (4, .ptr 1 3 0 0), (5, encI M0), (6, encI i)], [(0, some ⟨3, [zeroCase]⟩), (1, some ⟨3, [.agg [.ob 2 1 0 d0.sizes.length, encI N, .ob 3 2 0 d0.bars.length]]⟩), (2, some ⟨1, d0.sizes.map encI⟩), (3, some ⟨2, d0.bars.map encP⟩)], 4, []⟩ : St)) z.1 z.2.1) (fun z => (fun (d0 : CaseD) (i : Nat) => 12 - i) z.1 z.2.1) ⟨⟨[], N, []⟩, 0, ⟨by omega, rfl⟩⟩ [0, 1, 2, 3] ?_ ?_
    ·exact leqB16
    ·rintro ⟨d0, i, ⟨hi, hd⟩⟩
     obtain ⟨g1, g2, g3, g4⟩ := madeI_good (l := l) hN.1 hN.2 i (by omega)
     rw [← hd] at g1 g2 g3 g4
     have hw3 : IntKind.i64.wrap (3 + IntKind.i64.wrap (2 * (i : Int))) = 3 + 2 * (i : Int) := by rw [wrap_id (x := 2 * (i : Int)) (by omega) (by omega), wrap_id (by omega) (by omega)]
     have hw4 : IntKind.i64.wrap (4 + IntKind.i64.wrap (2 * (i : Int))) = 4 + 2 * (i : Int) := by rw [wrap_id (x := 2 * (i : Int)) (by omega) (by omega), wrap_id (by omega) (by omega)]
     have a1 := atI_lo (l := l) (i := 3 + 2 * (i : Int)) (m := 9) (by decide)
     have a2 := atI_hi (l := l) (i := 3 + 2 * (i : Int)) (m := 9) (by decide)
     have a3 := atI_lo (l := l) (i := 4 + 2 * (i : Int)) (m := 64) (by decide)
     have a4 := atI_hi (l := l) (i := 4 + 2 * (i : Int)) (m := 64) (by decide)
     refine Tri.seq ?_
     refine sZ [0, 2, 4, 5, 6, 32] (fun P S K => XvBinOV P .lss 3 (.tmp 31) (S.get 6) (S.get 5) (fun r2 _ => K ⟨[(0, S.get 0), (2, S.get 2), (4, S.get 4), (5, S.get 5), (6, S.get 6), (32, r2)], S.hp, S.nx, S.gh⟩)) fun K hK => ?_
     repeat' (first | (refine hK _ ?_; clear hK K) | refine And.intro ?_ ?_ | exact cl | exact one_encP _ | (refine st ?_; try simp only [encC, pairs, zeroCase]) | simp only [encC, pairs, zeroCase])
     all_goals
     refine Tri.cond rfl (fun h32 => ?_) (fun h32 => ?_)
     ·try (cases h32; done)
      all_goals (try simp only [CQ] at h32)
      all_goals
      refine Tri.skip ?_
      refine Tri.seq ?_
      refine Tri.block ?_
      refine sD 11 [0, 2, 4, 5, 6] (fun P GD S K => XvFieldAddr P 25 0 (S.get 4) (fun r0 ef0 => XvLoad P 22 (M S.hp S.nx) r0 (fun r1 ef1 => XvBinOV P .mul 3 (.tmp 38) (.atom (.int .i64 2)) (S.get 6) (fun r4 ef4 => XvBinOV P .add 3 (.tmp 39) (.atom (.int .i64 3)) r4 (fun r5 ef5 => XvFnV P (M S.hp S.nx) (.fn 36 []) [(S.get 0), r5, (.atom (.int .i64 9))] (fun r6 ef6 => XvBinOV P .add 3 (.tmp 41) (.atom (.int .i64 1)) r6 (fun r7 ef7 => XvBuildS P 22 1 (S.nx + ef6.add.length) [(0, r7)] (fun r8 ef8 => (22 = 22 ∧ XvAppend P 22 (M (Eff.hp ef8 (S.nx + ef6.add.length) (Eff.hp ef6 S.nx S.hp)) ((S.nx + ef6.add.length) + ef8.add.length)) r1 r8 (fun r9 ef9 => XvFieldAddr P 25 0 (S.get 4) (fun r10 ef10 => (trOk S.nx GD [⟨S.nx, 0, ef0.rd, [], []⟩, ⟨S.nx, 0, ef1.rd, [], []⟩, ⟨S.nx, 0, [], [], []⟩, ⟨S.nx, 0, [], [], []⟩, ⟨S.nx, 0, ef4.rd, [], []⟩, ⟨S.nx, 0, ef5.rd, [], []⟩, (Eff.tr ef6 S.nx), ⟨(S.nx + ef6.add.length), 0, ef7.rd, [], []⟩, (Eff.tr ef8 (S.nx + ef6.add.length)), (Eff.tr ef9 ((S.nx + ef6.add.length) + ef8.add.length)), ⟨(((S.nx + ef6.add.length) + ef8.add.length) + ef9.add.length), 0, ef10.rd, [], []⟩] = true ∧ XvStore P 22 (M (Eff.hp ef9 ((S.nx + ef6.add.length) + ef8.add.length) (Eff.hp ef8 (S.nx + ef6.add.length) (Eff.hp ef6 S.nx S.hp))) (((S.nx + ef6.add.length) + ef8.add.length) + ef9.add.length)) r10 r9 (fun r11 ef11 => K ⟨[(0, S.get 0), (2, S.get 2), (4, S.get 4), (5, S.get 5), (6, S.get 6)], (Eff.hp ef11 (((S.nx + ef6.add.length) + ef8.add.length) + ef9.add.length) (Eff.hp ef9 ((S.nx + ef6.add.length) + ef8.add.length) (Eff.hp ef8 (S.nx + ef6.add.length) (Eff.hp ef6 S.nx S.hp)))), ((((S.nx + ef6.add.length) + ef8.add.length) + ef9.add.length) + ef11.add.length), S.gh⟩))))))))))))) fun K hK => ?_
      repeat' (first | (refine hK _ ?_; clear hK K) | (refine (?_ : trOk _ _ _ = true); kernel_rfl) | ((first | refine xG_intro (fun hg => ?_) (fun hg => ?_) | refine fun (hg : (_ : Prop)) => ?_) <;> ((try simp only [BQ] at hg); try (exfalso; omega))) | refine And.intro ?_ ?_ | exact cl | exact one_encP _ | refine one_take ?_ _ | refine one_drop ?_ _ | refine .inl ⟨_, _, At_pure l 0 4 hl (by unfold I64; omega) (by decide), ?_⟩ | refine ⟨_, _, At_pure l 0 4 hl (by unfold I64; omega) (by decide), ?_⟩ | refine .inl ⟨_, _, At_pure l 1 3 hl (by unfold I64; omega) (by decide), ?_⟩ | refine ⟨_, _, At_pure l 1 3 hl (by unfold I64; omega) (by decide), ?_⟩ | refine .inl ⟨_, _, At_pure l 2 7 hl (by unfold I64; omega) (by decide), ?_⟩ | refine ⟨_, _, At_pure l 2 7 hl (by unfold I64; omega) (by decide), ?_⟩ | refine .inl ⟨_, _, At_pure l 1 2 hl (by unfold I64; omega) (by decide), ?_⟩ | refine ⟨_, _, At_pure l 1 2 hl (by unfold I64; omega) (by decide), ?_⟩ | refine .inl ⟨_, _, At_pure l 2 5 hl (by unfold I64; omega) (by decide), ?_⟩ | refine ⟨_, _, At_pure l 2 5 hl (by unfold I64; omega) (by decide), ?_⟩ | refine .inl ⟨_, _, At_pure l 2 6 hl (by unfold I64; omega) (by decide), ?_⟩ | refine ⟨_, _, At_pure l 2 6 hl (by unfold I64; omega) (by decide), ?_⟩ | refine .inl ⟨_, _, At_pure l (3 + 2 * (i : Int)) 9 hl (by unfold I64; omega) (by decide), ?_⟩ | refine ⟨_, _, At_pure l (3 + 2 * (i : Int)) 9 hl (by unfold I64; omega) (by decide), ?_⟩ | refine .inl ⟨_, _, At_pure l (4 + 2 * (i : Int)) 64 hl (by unfold I64; omega) (by decide), ?_⟩ | refine ⟨_, _, At_pure l (4 + 2 * (i : Int)) 64 hl (by unfold I64; omega) (by decide), ?_⟩ | refine .inl ⟨_, _, hV, ?_⟩ | refine ⟨_, _, hV, ?_⟩ | (refine st ?_; try simp only [encC, pairs, zeroCase, hw3]) | simp only [encC, pairs, zeroCase, hw3])
      all_goals try simp (disch := omega) only [wrap_id, wrap8_id]
      all_goals
      refine sZ [0, 2, 4, 5, 6, 7] (fun P S K => K ⟨[(0, S.get 0), (2, S.get 2), (4, S.get 4), (5, S.get 5), (6, S.get 6), (7, (.atom (.int .i64 0)))], S.hp, S.nx, S.gh⟩) fun K hK => ?_
      repeat' (first | (refine hK _ ?_; clear hK K) | refine And.intro ?_ ?_ | exact cl | exact one_encP _ | (refine st ?_; try simp only [encC, pairs, zeroCase]) | simp only [encC, pairs, zeroCase])
      all_goals
      refine Tri.block ?_
      refine Tri.loop (α := (d : CaseD) ×' (p : Nat) ×' (((p : Int) ≤ N ∧ i < M0) ∧ d = madeB l i (addSize (madeI l N i) (1 + atI l (3 + 2 * (i : Int)) 9)) p)) (fun z => (fun (d : CaseD) (p : Nat) => (⟨[(0, ints l), (2, .ptr 0 3 0 0), (4, .ptr 1 3 0 0), (5, encI M0), (6, encI i), (7, encI p)], [(0, some ⟨3, [zeroCase]⟩), (1, some ⟨3, [.agg [.ob 2 1 0 d.sizes.length, encI N, .ob 3 2 0 d.bars.length]]⟩), (2, some ⟨1, d.sizes.map encI⟩), (3, some ⟨2, d.bars.map encP⟩)], 4, []⟩ : St)) z.1 z.2.1) (fun z => (fun (d : CaseD) (p : Nat) => 6 - p) z.1 z.2.1) ⟨addSize d0 (1 + atI l (3 + 2 * (i : Int)) 9), 0, ⟨⟨by omega, by omega⟩, by rw [hd]; rfl⟩⟩ [0, 1, 5, 3] ?_ ?_
      ·exact leqB16
      ·rintro ⟨d, p, ⟨⟨hp, hiM⟩, hd2⟩⟩
       obtain ⟨k1, k2, k3, k4⟩ := madeB_good (l := l) (i := i) (good_size (n := 1 + atI l (3 + 2 * (i : Int)) 9) (hd ▸ g1) (by rw [← hd]; omega) (by omega)) p
       rw [← hd2] at k1 k2 k3 k4
       have kb : d.bars.length ≤ 100 := by
         have e0 : (addSize (madeI l N i) (1 + atI l (3 + 2 * (i : Int)) 9)).bars = d0.bars := by rw [hd]; rfl
         rw [e0] at k4; omega
       have ks : d.sizes.length = i + 1 := by rw [k2]; simp [addSize, ← hd, g2]
       have kp : d.people = N := k3.trans (hd ▸ g3)
       have hH : i < M0 → (p : Int) < N → Held (addBar d i p) := fun q1 q2 => by
         refine held_of_good' ⟨k1.many, k1.lo, k1.hi, k1.size⟩ (by simp [addBar]; omega) ?_
         intro b hb
         rcases List.mem_append.1 hb with hb | hb
         · have := k1.bar b hb; unfold I64; omega
         · rw [List.mem_singleton.1 hb]; unfold I64; omega
       have hst : madeB l i (addSize (madeI l N i) (1 + atI l (3 + 2 * (i : Int)) 9)) (p + 1) = if barB l i p = true ∧ validC (addBar d i p) = 0 then addBar d i p else d := by rw [hd2]; rfl
       refine Tri.seq ?_
       refine sZ [0, 2, 4, 5, 6, 7, 49] (fun P S K => XvFieldAddr P 25 1 (S.get 4) (fun r1 _ => XvLoad P 3 (M S.hp S.nx) r1 (fun r2 _ => XvBinOV P .lss 3 (.tmp 48) (S.get 7) r2 (fun r3 _ => K ⟨[(0, S.get 0), (2, S.get 2), (4, S.get 4), (5, S.get 5), (6, S.get 6), (7, S.get 7), (49, r3)], S.hp, S.nx, S.gh⟩)))) fun K hK => ?_
       repeat' (first | (refine hK _ ?_; clear hK K) | refine And.intro ?_ ?_ | exact cl | exact one_encP _ | refine one_take ?_ _ | refine one_drop ?_ _ | (refine st ?_; try simp only [encC, pairs, zeroCase]) | simp only [encC, pairs, zeroCase])
       all_goals
       refine Tri.cond rfl (fun h49 => ?_) (fun h49 => ?_)
       ·try (cases h49; done)
        all_goals (try simp only [CQ] at h49)
        all_goals
        refine Tri.skip ?_
        refine Tri.seq ?_
        refine Tri.block ?_
        refine Tri.cut (α := Unit) (fun ⟨⟩ => ⟨[(0, ints l), (2, .ptr 0 3 0 0), (4, .ptr 1 3 0 0), (5, encI M0), (6, encI i), (7, encI p), (8, .ptr 4 3 0 0)], [(0, some ⟨3, [zeroCase]⟩), (1, some ⟨3, [.agg [.ob 2 1 0 d.sizes.length, encI N, .ob 3 2 0 d.bars.length]]⟩), (2, some ⟨1, d.sizes.map encI⟩), (3, some ⟨2, d.bars.map encP⟩), (4, some ⟨3, [.agg [.ob 2 1 0 d.sizes.length, encI N, .ob 5 2 0 (d.bars ++ [((i : Int), (p : Int))]).length]]⟩), (5, some ⟨2, (d.bars ++ [((i : Int), (p : Int))]).map encP⟩)], 6, []⟩) ?_ ?_
        ·skip
         refine rD 15 [0, 2, 4, 5, 6, 7, 8] (fun P GD S K => XvFieldAddr P 25 0 (S.get 4) (fun r0 ef0 => XvLoad P 22 (M S.hp S.nx) r0 (fun r1 ef1 => XvFieldAddr P 25 1 (S.get 4) (fun r2 ef2 => XvLoad P 3 (M S.hp S.nx) r2 (fun r3 ef3 => XvBuildS P 23 0 S.nx [] (fun r4 ef4 => XvFieldAddr P 25 2 (S.get 4) (fun r5 ef5 => XvLoad P 23 (M (Eff.hp ef4 S.nx S.hp) (S.nx + ef4.add.length)) r5 (fun r6 ef6 => (23 = 23 ∧ XvAppend P 23 (M (Eff.hp ef4 S.nx S.hp) (S.nx + ef4.add.length)) r4 r6 (fun r7 ef7 => XvBuild P 67 [(0, (S.get 6)), (1, (S.get 7))] (fun r10 ef10 => XvBuildS P 23 1 ((S.nx + ef4.add.length) + ef7.add.length) [(0, r10)] (fun r11 ef11 => (23 = 23 ∧ XvAppend P 23 (M (Eff.hp ef11 ((S.nx + ef4.add.length) + ef7.add.length) (Eff.hp ef7 (S.nx + ef4.add.length) (Eff.hp ef4 S.nx S.hp))) (((S.nx + ef4.add.length) + ef7.add.length) + ef11.add.length)) r7 r11 (fun r12 ef12 => XvBuild P 25 [(0, r1), (1, r3), (2, r12)] (fun r13 ef13 => XvAlloc P 25 ((((S.nx + ef4.add.length) + ef7.add.length) + ef11.add.length) + ef12.add.length) (fun r14 ef14 => (trOk S.nx GD [⟨S.nx, 0, ef0.rd, [], []⟩, ⟨S.nx, 0, ef1.rd, [], []⟩, ⟨S.nx, 0, ef2.rd, [], []⟩, ⟨S.nx, 0, ef3.rd, [], []⟩, (Eff.tr ef4 S.nx), ⟨(S.nx + ef4.add.length), 0, ef5.rd, [], []⟩, ⟨(S.nx + ef4.add.length), 0, ef6.rd, [], []⟩, (Eff.tr ef7 (S.nx + ef4.add.length)), ⟨((S.nx + ef4.add.length) + ef7.add.length), 0, [], [], []⟩, ⟨((S.nx + ef4.add.length) + ef7.add.length), 0, [], [], []⟩, ⟨((S.nx + ef4.add.length) + ef7.add.length), 0, ef10.rd, [], []⟩, (Eff.tr ef11 ((S.nx + ef4.add.length) + ef7.add.length)), (Eff.tr ef12 (((S.nx + ef4.add.length) + ef7.add.length) + ef11.add.length)), ⟨((((S.nx + ef4.add.length) + ef7.add.length) + ef11.add.length) + ef12.add.length), 0, ef13.rd, [], []⟩, (Eff.tr ef14 ((((S.nx + ef4.add.length) + ef7.add.length) + ef11.add.length) + ef12.add.length))] = true ∧ XvStore P 25 (M (Eff.hp ef14 ((((S.nx + ef4.add.length) + ef7.add.length) + ef11.add.length) + ef12.add.length) (Eff.hp ef12 (((S.nx + ef4.add.length) + ef7.add.length) + ef11.add.length) (Eff.hp ef11 ((S.nx + ef4.add.length) + ef7.add.length) (Eff.hp ef7 (S.nx + ef4.add.length) (Eff.hp ef4 S.nx S.hp))))) (((((S.nx + ef4.add.length) + ef7.add.length) + ef11.add.length) + ef12.add.length) + ef14.add.length)) r14 r13 (fun r15 ef15 => K ⟨[(0, S.get 0), (2, S.get 2), (4, S.get 4), (5, S.get 5), (6, S.get 6), (7, S.get 7), (8, r14)], (Eff.hp ef15 (((((S.nx + ef4.add.length) + ef7.add.length) + ef11.add.length) + ef12.add.length) + ef14.add.length) (Eff.hp ef14 ((((S.nx + ef4.add.length) + ef7.add.length) + ef11.add.length) + ef12.add.length) (Eff.hp ef12 (((S.nx + ef4.add.length) + ef7.add.length) + ef11.add.length) (Eff.hp ef11 ((S.nx + ef4.add.length) + ef7.add.length) (Eff.hp ef7 (S.nx + ef4.add.length) (Eff.hp ef4 S.nx S.hp)))))), ((((((S.nx + ef4.add.length) + ef7.add.length) + ef11.add.length) + ef12.add.length) + ef14.add.length) + ef15.add.length), S.gh⟩)))))))))))))))))) fun K hK => ?_
         repeat' (first | (refine hK _ ?_; clear hK K) | (refine (?_ : trOk _ _ _ = true); kernel_rfl) | ((first | refine xG_intro (fun hg => ?_) (fun hg => ?_) | refine fun (hg : (_ : Prop)) => ?_) <;> ((try simp only [BQ] at hg); try (exfalso; omega))) | refine And.intro ?_ ?_ | exact cl | exact one_encP _ | refine one_take ?_ _ | refine one_drop ?_ _ | (refine st ?_; try simp only [encC, pairs, zeroCase]) | simp only [encC, pairs, zeroCase])
         all_goals
         refine ⟨(), [0, 1, 2, 3, 8, 7], ?_⟩
         exact leqB16
        ·rintro ⟨⟩
         have hV : Pure Try.prog 17 [.agg [ints d.sizes, encI N, pairs (d.bars ++ [((i : Int), (p : Int))])]] (encI (validC (addBar d i p))) [] := by
           have := rValid_pure (addBar d i p) (hH (by omega) (by omega))
           rw [show encC (addBar d i p) = .agg [ints d.sizes, encI N, pairs (d.bars ++ [((i : Int), (p : Int))])] by simp [encC, addBar, kp]] at this
           exact this
         generalize hnb : d.bars ++ [((i : Int), (p : Int))] = nb at hV ⊢
         refine sZ [0, 2, 4, 5, 6, 7, 8, 79] (fun P S K => XvBinOV P .mul 3 (.tmp 67) (.atom (.int .i64 2)) (S.get 6) (fun r2 _ => XvBinOV P .add 3 (.tmp 68) (.atom (.int .i64 4)) r2 (fun r3 _ => XvFnIV P (M S.hp S.nx) (.fn 36 []) [(S.get 0), r3, (.atom (.int .i64 64))] (fun r4 ef4 => XvBinOV P .shr 3 (.tmp 71) r4 (S.get 7) (fun r6 _ => XvBinOV P .and 3 (.const (.int .i64 3)) r6 (.atom (.int .i64 3)) (fun r7 _ => XvBinOV P .eql 3 (.const (.int .i64 3)) r7 (.atom (.int .i64 3)) (fun r8 _ => Xgq r8 true (fun k => XvLoad P 25 (M (Eff.hp ef4 S.nx S.hp) (S.nx + ef4.add.length)) (S.get 8) (fun r10 _ => k r10)) (fun g10 r10 => Xge g10 true (fun k => XvFnIV P (M (Eff.hp ef4 S.nx S.hp) (S.nx + ef4.add.length)) (.fn 17 []) [r10] k) (fun g11 r11 ef11 => Xgq g11 true (fun k => XvBinOV P .eql 32 (.const (.int .i64 0)) r11 (.atom (.int .i64 0)) (fun r12 _ => k r12)) (fun g12 r12 => XvPick g12 r12 (.atom (.bool false)) (fun r13 _ => K ⟨[(0, S.get 0), (2, S.get 2), (4, S.get 4), (5, S.get 5), (6, S.get 6), (7, S.get 7), (8, S.get 8), (79, r13)], (Eff.hp ef11 (S.nx + ef4.add.length) (Eff.hp ef4 S.nx S.hp)), ((S.nx + ef4.add.length) + ef11.add.length), S.gh⟩))))))))))) fun K hK => ?_
         repeat' (first | (refine hK _ ?_; clear hK K) | ((first | refine xG_intro (fun hg => ?_) (fun hg => ?_) | refine fun (hg : (_ : Prop)) => ?_) <;> ((try simp only [BQ] at hg); try (exfalso; omega))) | refine And.intro ?_ ?_ | exact cl | exact one_encP _ | refine one_take ?_ _ | refine one_drop ?_ _ | refine .inl ⟨_, _, At_pure l 0 4 hl (by unfold I64; omega) (by decide), ?_⟩ | refine .inl ⟨_, _, At_pure l 1 3 hl (by unfold I64; omega) (by decide), ?_⟩ | refine .inl ⟨_, _, At_pure l 2 7 hl (by unfold I64; omega) (by decide), ?_⟩ | refine .inl ⟨_, _, At_pure l 1 2 hl (by unfold I64; omega) (by decide), ?_⟩ | refine .inl ⟨_, _, At_pure l 2 5 hl (by unfold I64; omega) (by decide), ?_⟩ | refine .inl ⟨_, _, At_pure l 2 6 hl (by unfold I64; omega) (by decide), ?_⟩ | refine .inl ⟨_, _, At_pure l (3 + 2 * (i : Int)) 9 hl (by unfold I64; omega) (by decide), ?_⟩ | refine .inl ⟨_, _, At_pure l (4 + 2 * (i : Int)) 64 hl (by unfold I64; omega) (by decide), ?_⟩ | refine .inl ⟨_, _, hV, ?_⟩ | (refine st ?_; try simp only [encC, pairs, zeroCase, hw4, take_map_len, map_sealed_encI, map_sealed_encP]) | simp only [encC, pairs, zeroCase, hw4, take_map_len, map_sealed_encI, map_sealed_encP])
         all_goals try simp (disch := omega) only [wrap_id, wrap8_id]
         all_goals
         refine Tri.cond rfl (fun h79 => ?_) (fun h79 => ?_)
         ·try (cases h79; done)
          all_goals (try simp only [CQ] at h79)
          all_goals
          refine rZ [0, 2, 4, 5, 6, 7] (fun P S K => XvFieldAddr P 25 2 (S.get 8) (fun r0 _ => XvLoad P 23 (M S.hp S.nx) r0 (fun r1 _ => XvFieldAddr P 25 2 (S.get 4) (fun r2 _ => XvStore P 23 (M S.hp S.nx) r2 r1 (fun r3 ef3 => K ⟨[(0, S.get 0), (2, S.get 2), (4, S.get 4), (5, S.get 5), (6, S.get 6), (7, S.get 7)], (Eff.hp ef3 S.nx S.hp), (S.nx + ef3.add.length), S.gh⟩))))) fun K hK => ?_
          repeat' (first | (refine hK _ ?_; clear hK K) | refine And.intro ?_ ?_ | exact cl | exact one_encP _ | refine one_take ?_ _ | refine one_drop ?_ _ | (refine st ?_; try simp only [encC, pairs, zeroCase]) | simp only [encC, pairs, zeroCase])
          all_goals
          refine rZ [0, 2, 4, 5, 6, 7] (fun P S K => XvBinOV P .add 3 (.const (.int .i64 1)) (S.get 7) (.atom (.int .i64 1)) (fun r1 _ => K ⟨[(0, S.get 0), (2, S.get 2), (4, S.get 4), (5, S.get 5), (6, S.get 6), (7, r1)], S.hp, S.nx, S.gh⟩)) fun K hK => ?_
          repeat' (first | (refine hK _ ?_; clear hK K) | refine And.intro ?_ ?_ | exact cl | exact one_encP _ | (refine st ?_; try simp only [encC, pairs, zeroCase]) | simp only [encC, pairs, zeroCase])
          all_goals try simp (disch := omega) only [wrap_id, wrap8_id]
          all_goals
          first
          | (have e : madeB l i (addSize (madeI l N i) (1 + atI l (3 + 2 * (i : Int)) 9)) (p + 1) = addBar d i p := (by rw [hst, if_pos ⟨decide_eq_true hg, by assumption⟩]); refine ⟨⟨addBar d i p, p + 1, by omega, e.symm⟩, [0, 1, 2, 5], by dsimp only; omega, ?_⟩; subst hnb; exact leqB16)
          | (have e : madeB l i (addSize (madeI l N i) (1 + atI l (3 + 2 * (i : Int)) 9)) (p + 1) = d := (by rw [hst, if_neg (fun q => h79 q.2)]); refine ⟨⟨d, p + 1, by omega, e.symm⟩, [0, 1, 2, 3], by dsimp only; omega, ?_⟩; exact leqB16)
          | (have e : madeB l i (addSize (madeI l N i) (1 + atI l (3 + 2 * (i : Int)) 9)) (p + 1) = d := (by rw [hst, if_neg (fun q => hg (of_decide_eq_true q.1))]); refine ⟨⟨d, p + 1, by omega, e.symm⟩, [0, 1, 2, 3], by dsimp only; omega, ?_⟩; exact leqB16)
         ·try (cases h79; done)
          all_goals (try simp only [CQ] at h79)
          all_goals
          refine Tri.skip ?_
          refine rZ [0, 2, 4, 5, 6, 7] (fun P S K => XvBinOV P .add 3 (.const (.int .i64 1)) (S.get 7) (.atom (.int .i64 1)) (fun r1 _ => K ⟨[(0, S.get 0), (2, S.get 2), (4, S.get 4), (5, S.get 5), (6, S.get 6), (7, r1)], S.hp, S.nx, S.gh⟩)) fun K hK => ?_
          repeat' (first | (refine hK _ ?_; clear hK K) | refine And.intro ?_ ?_ | exact cl | exact one_encP _ | (refine st ?_; try simp only [encC, pairs, zeroCase]) | simp only [encC, pairs, zeroCase])
          all_goals try simp (disch := omega) only [wrap_id, wrap8_id]
          all_goals
          first
          | (have e : madeB l i (addSize (madeI l N i) (1 + atI l (3 + 2 * (i : Int)) 9)) (p + 1) = addBar d i p := (by rw [hst, if_pos ⟨decide_eq_true hg, by assumption⟩]); refine ⟨⟨addBar d i p, p + 1, by omega, e.symm⟩, [0, 1, 2, 5], by dsimp only; omega, ?_⟩; subst hnb; exact leqB16)
          | (have e : madeB l i (addSize (madeI l N i) (1 + atI l (3 + 2 * (i : Int)) 9)) (p + 1) = d := (by rw [hst, if_neg (fun q => h79 q.2)]); refine ⟨⟨d, p + 1, by omega, e.symm⟩, [0, 1, 2, 3], by dsimp only; omega, ?_⟩; exact leqB16)
          | (have e : madeB l i (addSize (madeI l N i) (1 + atI l (3 + 2 * (i : Int)) 9)) (p + 1) = d := (by rw [hst, if_neg (fun q => hg (of_decide_eq_true q.1))]); refine ⟨⟨d, p + 1, by omega, e.symm⟩, [0, 1, 2, 3], by dsimp only; omega, ?_⟩; exact leqB16)
       ·try (cases h49; done)
        all_goals (try simp only [CQ] at h49)
        all_goals
        refine Tri.exit ?_
        refine rZ [0, 2, 4, 5, 6] (fun P S K => XvBinOV P .add 3 (.const (.int .i64 1)) (S.get 6) (.atom (.int .i64 1)) (fun r1 _ => K ⟨[(0, S.get 0), (2, S.get 2), (4, S.get 4), (5, S.get 5), (6, r1)], S.hp, S.nx, S.gh⟩)) fun K hK => ?_
        repeat' (first | (refine hK _ ?_; clear hK K) | refine And.intro ?_ ?_ | exact cl | exact one_encP _ | (refine st ?_; try simp only [encC, pairs, zeroCase]) | simp only [encC, pairs, zeroCase])
        all_goals try simp (disch := omega) only [wrap_id, wrap8_id]
        all_goals
        obtain rfl : p = N.toNat := by omega
        refine ⟨⟨d, i + 1, by omega, hd2⟩, [0, 1, 2, 3], by dsimp only; omega, ?_⟩
        exact leqB16
     ·try (cases h32; done)
      all_goals (try simp only [CQ] at h32)
      all_goals
      refine Tri.exit ?_
      obtain rfl : i = M0.toNat := by omega
      refine sZ [2] (fun P S K => XvLoad P 25 (M S.hp S.nx) (S.get 4) (fun r0 _ => XvStore P 25 (M S.hp S.nx) (S.get 2) r0 (fun r1 ef1 => K ⟨[(2, S.get 2)], (Eff.hp ef1 S.nx S.hp), (S.nx + ef1.add.length), S.gh⟩))) fun K hK => ?_
      repeat' (first | (refine hK _ ?_; clear hK K) | refine And.intro ?_ ?_ | exact cl | exact one_encP _ | refine one_take ?_ _ | refine one_drop ?_ _ | (refine st ?_; try simp only [encC, pairs, zeroCase]) | simp only [encC, pairs, zeroCase])
      all_goals
      refine Tri.ret ?_
      show ResR _ _ _ _ _
      rw [show madeC l = d0 by rw [hfin, hd]]
      refine ResR.cell1 (PV.agg [_, _, _]) rfl ?_ (pure_case _)
      simp [-List.map_map, sealed, St.obj, lk, encC, ints, pairs, map_sealed_encI, map_sealed_encP, g3, take_map_len]
theorem leqB17 {p : Prop} (h : p := by (refine ⟨4, ?_, ?_, rfl, by simp, rfl, fun _ h _ => absurd h (Nat.not_lt_zero _)⟩ <;> (simp only [List.forall_mem_cons]; repeat' (first | refine And.intro ?_ ?_ | (intro p hp; exact absurd hp List.not_mem_nil) | rfl | exact sp (pure_case _) | exact sp (pure_pairs _) | exact sp (pure_cert _) | exact (sealed_pure _ _ _ (pure_ints _)).trans (ren_ints _ _).symm | exact (sealed_pure _ _ _ (pure_strs _)).trans (ren_strs _ _).symm | exact sp (by assumption) | (intro o ho; cases ho; refine ⟨by decide, ?_⟩; first | (refine LeqS.row rfl ?_ ?_; (next => (first | rfl | (simp only [List.map_append, List.map_cons, List.map_nil, List.append_nil, List.nil_append, List.append_assoc, List.cons_append, encI, encS, ints, strs]; done) | (simp [encI, encS, ints, strs, encP, List.map_set, runB_0]; done))); (next => (first | rfl | exact pureL_encI _ | exact pureL_encS _ | exact pureL_ints _ | exact pureL_strs _ | exact pureL_encP _ | (simp [pureL_append, pureL_encI, pureL_encS, pureL_ints, pureL_strs, pureL, PV.pure, pure_ints, pure_strs, pure_case, pureL_encP, pure_pairs, pure_cert]; done))); done) | refine ⟨_, rfl, rfl, ?_⟩) | (simp [St.born, St.known, retV, St.get, St.obj, lk, sealed, PV.ren, renL, rmap, AO.ren, ints, strs, encI, encS, map_sealed_encI, map_sealed_encS, map_sealed_ints, map_sealed_strs, map_ren_encI, map_ren_encS, map_ren_ints, map_ren_strs, renL_encI, renL_encS, renL_ints, renL_strs, ren_case, encC, pairs, renL_encP, map_sealed_encP, map_ren_encP, encP, take_map_len, zeroCase] <;> omega)))); first | done | fail) : p := h
theorem tdiv_I64 {x k : Int} (h : I64 x) (hk : 0 < k) : I64 (x.tdiv k) := by
  obtain ⟨h1, h2⟩ := h
  rcases Int.le_total 0 x with h0 | h0
  · have a := Int.tdiv_nonneg h0 (Int.le_of_lt hk)
    have b := Int.tdiv_le_self k h0
    unfold I64; omega
  · obtain ⟨y, rfl⟩ : ∃ y, x = -y := ⟨-x, by omega⟩
    have a := Int.tdiv_nonneg (a := y) (by omega) (Int.le_of_lt hk)
    have b := Int.tdiv_le_self (a := y) k (by omega)
    rw [Int.neg_tdiv]
    unfold I64; omega
def sz5 : List Int := [0, -1, 1, 1024, 1025]
theorem sz5_get {k : Nat} (h : k < 5) : List.getD [PV.atom (.int .i64 0), .atom (.int .i64 (-1)), .atom (.int .i64 1), .atom (.int .i64 1024), .atom (.int .i64 1025)] k .junk = .atom (.int .i64 (li sz5 k)) := getD_encI (l := sz5) h
def runB (k : Int) : Nat → List (Int × Int)
  | 0 => []
  | p + 1 => runB k p ++ [(k, (p : Int))]
theorem runB_0 (k : Int) : runB k 0 = [] := rfl
theorem runB_len (k : Int) : ∀ p, (runB k p).length = p
  | 0 => rfl
  | p + 1 => by rw [runB, List.length_append, runB_len k p]; rfl
def runM (c : CaseD) (k : Int) : Nat := if k < c.sizes.length then (c.people - 1).toNat else 0
def spK (c : CaseD) (by_ : Int) : Int := around (by_.tdiv 3) (max (c.sizes.length : Int) 1)
def spN (by_ : Int) : Int := around by_ 9 - 1
def spoiltC (c : CaseD) (how by_ : Int) : CaseD :=
  if around how 6 = 0 then ⟨c.sizes, spN by_, c.bars⟩
  else if around how 6 = 1 then ⟨c.sizes, c.people, c.bars ++ [(spK c by_, spN by_)]⟩
  else if around how 6 = 2 then ⟨c.sizes, c.people, c.bars ++ [(spN by_, 0)]⟩
  else if around how 6 = 3 then ⟨if 0 < c.sizes.length then c.sizes.set (spK c by_).toNat (li sz5 (around by_ 5).toNat) else c.sizes, c.people, c.bars⟩
  else if around how 6 = 4 then ⟨c.sizes, c.people, c.bars ++ runB (spK c by_) (runM c (spK c by_))⟩
  else ⟨c.sizes ++ List.replicate ((62 + around by_ 4).toNat - c.sizes.length) 1, c.people, c.bars⟩
theorem spo_0 {c : CaseD} {how by_ : Int} (h : around how 6 = 0) : spoiltC c how by_ = ⟨c.sizes, spN by_, c.bars⟩ := if_pos h
theorem spo_1 {c : CaseD} {how by_ : Int} (h : around how 6 = 1) : spoiltC c how by_ = ⟨c.sizes, c.people, c.bars ++ [(spK c by_, spN by_)]⟩ := by unfold spoiltC; simp [h]
theorem spo_2 {c : CaseD} {how by_ : Int} (h : around how 6 = 2) : spoiltC c how by_ = ⟨c.sizes, c.people, c.bars ++ [(spN by_, 0)]⟩ := by unfold spoiltC; simp [h]
theorem spo_3 {c : CaseD} {how by_ : Int} (h : around how 6 = 3) (h2 : 0 < c.sizes.length) : spoiltC c how by_ = ⟨c.sizes.set (spK c by_).toNat (li sz5 (around by_ 5).toNat), c.people, c.bars⟩ := by unfold spoiltC; simp [h, h2]
theorem spo_3n {c : CaseD} {how by_ : Int} (h : around how 6 = 3) (h2 : ¬ 0 < c.sizes.length) : spoiltC c how by_ = ⟨c.sizes, c.people, c.bars⟩ := by unfold spoiltC; simp [h, h2]
theorem spo_4 {c : CaseD} {how by_ : Int} {p : Nat} (h : around how 6 = 4) (hp : p = runM c (spK c by_)) : spoiltC c how by_ = ⟨c.sizes, c.people, c.bars ++ runB (spK c by_) p⟩ := by unfold spoiltC; simp [h, hp]
theorem spo_5 {c : CaseD} {how by_ : Int} {j : Nat} (h0 : ¬ around how 6 = 0) (h1 : ¬ around how 6 = 1) (h2 : ¬ around how 6 = 2) (h3 : ¬ around how 6 = 3) (h4 : ¬ around how 6 = 4) (hj : j = (62 + around by_ 4).toNat - c.sizes.length) : spoiltC c how by_ = ⟨c.sizes ++ List.replicate j 1, c.people, c.bars⟩ := by unfold spoiltC; simp [h0, h1, h2, h3, h4, hj]
theorem set_encI (l : List Int) (i : Nat) (v : Int) : (l.map encI).set i (PV.atom (.int .i64 v)) = (l.set i v).map encI := by rw [List.map_set]; rfl
theorem Spoilt_pure (c : CaseD) (how by_ : Int) (hG : Good c) (hbl : c.bars.length ≤ 1000) (hh : I64 how) (hb : I64 by_) : Pure Try.prog 11 [encC c, encI how, encI by_] (encC (spoiltC c how by_)) [] := by
  have hmany := hG.many
  have hlo := hG.lo
  have hhi := hG.hi
  have h90 := around_lo (n := by_) (most := 9) (by decide)
  have h91 := around_hi (n := by_) (most := 9) (by decide)
  have h50 := around_lo (n := by_) (most := 5) (by decide)
  have h51 := around_hi (n := by_) (most := 5) (by decide)
  have h40 := around_lo (n := by_) (most := 4) (by decide)
  have h41 := around_hi (n := by_) (most := 4) (by decide)
  have hb1 := hb.1
  have hb2 := hb.2
  have hq : I64 (by_.tdiv 3) := tdiv_I64 hb (by decide)
  have hk0 : 0 ≤ spK c by_ := around_lo (by omega)
  have hk1 : spK c by_ < max (c.sizes.length : Int) 1 := around_hi (n := by_.tdiv 3) (most := max (c.sizes.length : Int) 1) (by omega)
  have hg5 := sz5_get (k := (around by_ 5).toNat) (by omega)
  have hNe : around by_ 9 - 1 = spN by_ := rfl
  have hKe : around (by_.tdiv 3) (max (c.sizes.length : Int) 1) = spK c by_ := rfl
  refine Pure.introR (rv := [.cell 6 25]) Try.func11 (by kernel_rfl) rfl rfl rfl (Nat.le_of_ble_eq_true rfl) ?_ ?_
  · simp [pure_case, encI, PV.pure, pureL]
  refine sZ [1, 2, 3, 6] (fun P S K => XvBox S.nx (S.get 0) (fun r0 ef0 => XvAlloc P 25 (S.nx + ef0.add.length) (fun r1 ef1 => K ⟨[(1, S.get 1), (2, S.get 2), (3, r0), (6, r1)], (Eff.hp ef1 (S.nx + ef0.add.length) (Eff.hp ef0 S.nx S.hp)), ((S.nx + ef0.add.length) + ef1.add.length), S.gh⟩))) fun K hK => ?_
  repeat' (first | (refine hK _ ?_; clear hK K) | refine And.intro ?_ ?_ | exact cl | exact one_encP _ | (refine st ?_; try simp only [encC, pairs, zeroCase]) | simp only [encC, pairs, zeroCase])
  all_goals
  refine Tri.cut (α := Unit) (fun ⟨⟩ => ⟨[(1, encI how), (2, encI by_), (6, .ptr 0 3 0 0), (7, .ptr 1 3 0 0)], [(0, some ⟨3, [zeroCase]⟩), (1, some ⟨3, [.agg [.ob 2 1 0 c.sizes.length, encI c.people, .ob 3 2 0 c.bars.length]]⟩), (2, some ⟨1, c.sizes.map encI⟩), (3, some ⟨2, c.bars.map encP⟩)], 4, []⟩) ?_ ?_
  ·skip
   refine rD 12 [1, 2, 6, 7] (fun P GD S K => XvBuildS P 22 0 S.nx [] (fun r0 ef0 => XvFieldAddr P 25 0 (S.get 3) (fun r1 ef1 => XvLoad P 22 (M (Eff.hp ef0 S.nx S.hp) (S.nx + ef0.add.length)) r1 (fun r2 ef2 => (22 = 22 ∧ XvAppend P 22 (M (Eff.hp ef0 S.nx S.hp) (S.nx + ef0.add.length)) r0 r2 (fun r3 ef3 => XvFieldAddr P 25 1 (S.get 3) (fun r4 ef4 => XvLoad P 3 (M (Eff.hp ef3 (S.nx + ef0.add.length) (Eff.hp ef0 S.nx S.hp)) ((S.nx + ef0.add.length) + ef3.add.length)) r4 (fun r5 ef5 => XvBuildS P 23 0 ((S.nx + ef0.add.length) + ef3.add.length) [] (fun r6 ef6 => XvFieldAddr P 25 2 (S.get 3) (fun r7 ef7 => XvLoad P 23 (M (Eff.hp ef6 ((S.nx + ef0.add.length) + ef3.add.length) (Eff.hp ef3 (S.nx + ef0.add.length) (Eff.hp ef0 S.nx S.hp))) (((S.nx + ef0.add.length) + ef3.add.length) + ef6.add.length)) r7 (fun r8 ef8 => (23 = 23 ∧ XvAppend P 23 (M (Eff.hp ef6 ((S.nx + ef0.add.length) + ef3.add.length) (Eff.hp ef3 (S.nx + ef0.add.length) (Eff.hp ef0 S.nx S.hp))) (((S.nx + ef0.add.length) + ef3.add.length) + ef6.add.length)) r6 r8 (fun r9 ef9 => XvBuild P 25 [(0, r3), (1, r5), (2, r9)] (fun r10 ef10 => XvAlloc P 25 ((((S.nx + ef0.add.length) + ef3.add.length) + ef6.add.length) + ef9.add.length) (fun r11 ef11 => (trOk S.nx GD [(Eff.tr ef0 S.nx), ⟨(S.nx + ef0.add.length), 0, ef1.rd, [], []⟩, ⟨(S.nx + ef0.add.length), 0, ef2.rd, [], []⟩, (Eff.tr ef3 (S.nx + ef0.add.length)), ⟨((S.nx + ef0.add.length) + ef3.add.length), 0, ef4.rd, [], []⟩, ⟨((S.nx + ef0.add.length) + ef3.add.length), 0, ef5.rd, [], []⟩, (Eff.tr ef6 ((S.nx + ef0.add.length) + ef3.add.length)), ⟨(((S.nx + ef0.add.length) + ef3.add.length) + ef6.add.length), 0, ef7.rd, [], []⟩, ⟨(((S.nx + ef0.add.length) + ef3.add.length) + ef6.add.length), 0, ef8.rd, [], []⟩, (Eff.tr ef9 (((S.nx + ef0.add.length) + ef3.add.length) + ef6.add.length)), ⟨((((S.nx + ef0.add.length) + ef3.add.length) + ef6.add.length) + ef9.add.length), 0, ef10.rd, [], []⟩, (Eff.tr ef11 ((((S.nx + ef0.add.length) + ef3.add.length) + ef6.add.length) + ef9.add.length))] = true ∧ XvStore P 25 (M (Eff.hp ef11 ((((S.nx + ef0.add.length) + ef3.add.length) + ef6.add.length) + ef9.add.length) (Eff.hp ef9 (((S.nx + ef0.add.length) + ef3.add.length) + ef6.add.length) (Eff.hp ef6 ((S.nx + ef0.add.length) + ef3.add.length) (Eff.hp ef3 (S.nx + ef0.add.length) (Eff.hp ef0 S.nx S.hp))))) (((((S.nx + ef0.add.length) + ef3.add.length) + ef6.add.length) + ef9.add.length) + ef11.add.length)) r11 r10 (fun r12 ef12 => K ⟨[(1, S.get 1), (2, S.get 2), (6, S.get 6), (7, r11)], (Eff.hp ef12 (((((S.nx + ef0.add.length) + ef3.add.length) + ef6.add.length) + ef9.add.length) + ef11.add.length) (Eff.hp ef11 ((((S.nx + ef0.add.length) + ef3.add.length) + ef6.add.length) + ef9.add.length) (Eff.hp ef9 (((S.nx + ef0.add.length) + ef3.add.length) + ef6.add.length) (Eff.hp ef6 ((S.nx + ef0.add.length) + ef3.add.length) (Eff.hp ef3 (S.nx + ef0.add.length) (Eff.hp ef0 S.nx S.hp)))))), ((((((S.nx + ef0.add.length) + ef3.add.length) + ef6.add.length) + ef9.add.length) + ef11.add.length) + ef12.add.length), S.gh⟩))))))))))))))))) fun K hK => ?_
   repeat' (first | (refine hK _ ?_; clear hK K) | (refine (?_ : trOk _ _ _ = true); kernel_rfl) | ((first | refine xG_intro (fun hg => ?_) (fun hg => ?_) | refine fun (hg : (_ : Prop)) => ?_) <;> ((try simp only [BQ] at hg); try (exfalso; omega))) | refine And.intro ?_ ?_ | exact cl | exact one_encP _ | refine one_take ?_ _ | refine one_drop ?_ _ | (refine st ?_; try simp only [encC, pairs, zeroCase]) | simp only [encC, pairs, zeroCase])
   all_goals
   refine ⟨(), [1, 6, 3, 5], ?_⟩
   exact leqB17
  ·rintro ⟨⟩
   refine sZ [1, 2, 6, 7, 8] (fun P S K => XvFnIV P (M S.hp S.nx) (.fn 35 []) [(S.get 2), (.atom (.int .i64 9))] (fun r1 ef1 => XvBinOV P .sub 3 (.const (.int .i64 1)) r1 (.atom (.int .i64 1)) (fun r2 _ => K ⟨[(1, S.get 1), (2, S.get 2), (6, S.get 6), (7, S.get 7), (8, r2)], (Eff.hp ef1 S.nx S.hp), (S.nx + ef1.add.length), S.gh⟩))) fun K hK => ?_
   repeat' (first | (refine hK _ ?_; clear hK K) | refine And.intro ?_ ?_ | exact cl | exact one_encP _ | refine .inl ⟨_, _, Around_pure how 6 hh (by decide), ?_⟩ | refine .inl ⟨_, _, Around_pure by_ 9 hb (by decide), ?_⟩ | refine .inl ⟨_, _, Around_pure (by_.tdiv 3) (max (c.sizes.length : Int) 1) hq (by omega), ?_⟩ | refine .inl ⟨_, _, Around_pure by_ 5 hb (by decide), ?_⟩ | refine .inl ⟨_, _, Around_pure by_ 4 hb (by decide), ?_⟩ | (refine st ?_; try simp only [encC, pairs, zeroCase]) | simp only [encC, pairs, zeroCase])
   all_goals try simp (disch := omega) only [wrap_id, wrap8_id]
   rw [hNe]
   all_goals
   refine sZ [1, 2, 6, 7, 8, 9] (fun P S K => XvBinOV P .quo 3 (.const (.int .i64 3)) (S.get 2) (.atom (.int .i64 3)) (fun r1 _ => XvFieldAddr P 25 0 (S.get 7) (fun r2 _ => XvLoad P 22 (M S.hp S.nx) r2 (fun r3 _ => XvLen P 22 r3 (fun r4 _ => XvMinMax true r4 (.atom (.int .i64 1)) (fun r5 _ => XvFnIV P (M S.hp S.nx) (.fn 35 []) [r1, r5] (fun r6 ef6 => K ⟨[(1, S.get 1), (2, S.get 2), (6, S.get 6), (7, S.get 7), (8, S.get 8), (9, r6)], (Eff.hp ef6 S.nx S.hp), (S.nx + ef6.add.length), S.gh⟩))))))) fun K hK => ?_
   repeat' (first | (refine hK _ ?_; clear hK K) | ((first | refine xG_intro (fun hg => ?_) (fun hg => ?_) | refine fun (hg : (_ : Prop)) => ?_) <;> ((try simp only [BQ] at hg); try (exfalso; omega))) | refine And.intro ?_ ?_ | exact cl | exact one_encP _ | refine one_take ?_ _ | refine one_drop ?_ _ | refine .inl ⟨_, _, Around_pure how 6 hh (by decide), ?_⟩ | refine .inl ⟨_, _, Around_pure by_ 9 hb (by decide), ?_⟩ | refine .inl ⟨_, _, Around_pure (by_.tdiv 3) (max (c.sizes.length : Int) 1) hq (by omega), ?_⟩ | refine .inl ⟨_, _, Around_pure by_ 5 hb (by decide), ?_⟩ | refine .inl ⟨_, _, Around_pure by_ 4 hb (by decide), ?_⟩ | (refine st ?_; try simp only [encC, pairs, zeroCase, wrap_id hq.1 hq.2]) | simp only [encC, pairs, zeroCase, wrap_id hq.1 hq.2])
   all_goals try simp (disch := omega) only [wrap_id, wrap8_id]
   rw [hKe]
   generalize hke : spK c by_ = k at hk0 hk1
   generalize hne : spN by_ = n
   all_goals
   refine Tri.seq ?_
   refine sZ [2, 6, 7, 8, 9, 33] (fun P S K => XvFnIV P (M S.hp S.nx) (.fn 35 []) [(S.get 1), (.atom (.int .i64 6))] (fun r1 ef1 => K ⟨[(2, S.get 2), (6, S.get 6), (7, S.get 7), (8, S.get 8), (9, S.get 9), (33, r1)], (Eff.hp ef1 S.nx S.hp), (S.nx + ef1.add.length), S.gh⟩)) fun K hK => ?_
   repeat' (first | (refine hK _ ?_; clear hK K) | refine And.intro ?_ ?_ | exact cl | exact one_encP _ | refine .inl ⟨_, _, Around_pure how 6 hh (by decide), ?_⟩ | refine .inl ⟨_, _, Around_pure by_ 9 hb (by decide), ?_⟩ | refine .inl ⟨_, _, Around_pure (by_.tdiv 3) (max (c.sizes.length : Int) 1) hq (by omega), ?_⟩ | refine .inl ⟨_, _, Around_pure by_ 5 hb (by decide), ?_⟩ | refine .inl ⟨_, _, Around_pure by_ 4 hb (by decide), ?_⟩ | (refine st ?_; try simp only [encC, pairs, zeroCase]) | simp only [encC, pairs, zeroCase])
   all_goals
   refine Tri.block ?_
   refine sZ [2, 6, 7, 8, 9, 33, 46] (fun P S K => XvBinOV P .eql 3 (.const (.int .i64 0)) (S.get 33) (.atom (.int .i64 0)) (fun r0 _ => K ⟨[(2, S.get 2), (6, S.get 6), (7, S.get 7), (8, S.get 8), (9, S.get 9), (33, S.get 33), (46, r0)], S.hp, S.nx, S.gh⟩)) fun K hK => ?_
   repeat' (first | (refine hK _ ?_; clear hK K) | refine And.intro ?_ ?_ | exact cl | exact one_encP _ | (refine st ?_; try simp only [encC, pairs, zeroCase]) | simp only [encC, pairs, zeroCase])
   all_goals
   refine Tri.cond rfl (fun h46 => ?_) (fun h46 => ?_)
   ·try (cases h46; done)
    all_goals (try simp only [CQ] at h46)
    all_goals
    refine rZ [6, 7] (fun P S K => XvFieldAddr P 25 1 (S.get 7) (fun r1 _ => XvStore P 3 (M S.hp S.nx) r1 (S.get 8) (fun r2 ef2 => K ⟨[(6, S.get 6), (7, S.get 7)], (Eff.hp ef2 S.nx S.hp), (S.nx + ef2.add.length), S.gh⟩))) fun K hK => ?_
    repeat' (first | (refine hK _ ?_; clear hK K) | refine And.intro ?_ ?_ | exact cl | exact one_encP _ | (refine st ?_; try simp only [encC, pairs, zeroCase]) | simp only [encC, pairs, zeroCase])
    all_goals
    refine sZ [6] (fun P S K => XvLoad P 25 (M S.hp S.nx) (S.get 7) (fun r0 _ => XvStore P 25 (M S.hp S.nx) (S.get 6) r0 (fun r1 ef1 => K ⟨[(6, S.get 6)], (Eff.hp ef1 S.nx S.hp), (S.nx + ef1.add.length), S.gh⟩))) fun K hK => ?_
    repeat' (first | (refine hK _ ?_; clear hK K) | refine And.intro ?_ ?_ | exact cl | exact one_encP _ | refine one_take ?_ _ | refine one_drop ?_ _ | (refine st ?_; try simp only [encC, pairs, zeroCase]) | simp only [encC, pairs, zeroCase])
    all_goals
    refine Tri.ret ?_
    show ResR _ _ _ _ _
    first
      | rw [spo_0 (by assumption), hne]
      | rw [spo_1 (by assumption), hne, hke]
      | rw [spo_2 (by assumption), hne]
      | rw [spo_3 (by assumption) (by omega), hke]
      | rw [spo_3n (by assumption) (by omega)]
      | (have hpm : p = runM c k := (by unfold runM; split <;> omega); rw [spo_4 (p := p) (by assumption) (by rw [hke]; exact hpm), hke])
      | (have hjm : j = (62 + around by_ 4).toNat - c.sizes.length := (by omega); rw [spo_5 (by assumption) (by assumption) (by assumption) (by assumption) (by assumption) hjm])
    refine ResR.cell1 (PV.agg [_, _, _]) rfl ?_ (pure_case _)
    first
      | (simp [-List.map_map, sealed, St.obj, lk, encC, ints, pairs, map_sealed_encI, map_sealed_encP, take_map_len, set_encI]; done)
      | (simp [-List.map_map, sealed, St.obj, lk, encC, ints, pairs, map_sealed_encI, map_sealed_encP, take_map_len, List.take_of_length_le, runB_len, encP, encI, List.map_set]; done)
      | (simp [sealed, St.obj, lk, encC, ints, pairs, List.take_of_length_le, runB_len, encP, encI, List.map_set, PV.ren, renL]; done)
   ·try (cases h46; done)
    all_goals (try simp only [CQ] at h46)
    all_goals
    refine sZ [2, 6, 7, 8, 9, 33, 50] (fun P S K => XvBinOV P .eql 3 (.const (.int .i64 1)) (S.get 33) (.atom (.int .i64 1)) (fun r0 _ => K ⟨[(2, S.get 2), (6, S.get 6), (7, S.get 7), (8, S.get 8), (9, S.get 9), (33, S.get 33), (50, r0)], S.hp, S.nx, S.gh⟩)) fun K hK => ?_
    repeat' (first | (refine hK _ ?_; clear hK K) | refine And.intro ?_ ?_ | exact cl | exact one_encP _ | (refine st ?_; try simp only [encC, pairs, zeroCase]) | simp only [encC, pairs, zeroCase])
    all_goals
    refine Tri.cond rfl (fun h50 => ?_) (fun h50 => ?_)
    ·try (cases h50; done)
     all_goals (try simp only [CQ] at h50)
     all_goals
     refine rZ [6, 7] (fun P S K => XvFieldAddr P 25 2 (S.get 7) (fun r0 _ => XvLoad P 23 (M S.hp S.nx) r0 (fun r1 _ => XvBuild P 67 [(0, (S.get 9)), (1, (S.get 8))] (fun r4 _ => XvBuildS P 23 1 S.nx [(0, r4)] (fun r5 ef5 => (23 = 23 ∧ XvAppend P 23 (M (Eff.hp ef5 S.nx S.hp) (S.nx + ef5.add.length)) r1 r5 (fun r6 ef6 => XvFieldAddr P 25 2 (S.get 7) (fun r7 _ => XvStore P 23 (M (Eff.hp ef6 (S.nx + ef5.add.length) (Eff.hp ef5 S.nx S.hp)) ((S.nx + ef5.add.length) + ef6.add.length)) r7 r6 (fun r8 ef8 => K ⟨[(6, S.get 6), (7, S.get 7)], (Eff.hp ef8 ((S.nx + ef5.add.length) + ef6.add.length) (Eff.hp ef6 (S.nx + ef5.add.length) (Eff.hp ef5 S.nx S.hp))), (((S.nx + ef5.add.length) + ef6.add.length) + ef8.add.length), S.gh⟩))))))))) fun K hK => ?_
     repeat' (first | (refine hK _ ?_; clear hK K) | ((first | refine xG_intro (fun hg => ?_) (fun hg => ?_) | refine fun (hg : (_ : Prop)) => ?_) <;> ((try simp only [BQ] at hg); try (exfalso; omega))) | refine And.intro ?_ ?_ | exact cl | exact one_encP _ | refine one_take ?_ _ | refine one_drop ?_ _ | (refine st ?_; try simp only [encC, pairs, zeroCase]) | simp only [encC, pairs, zeroCase])
     all_goals
     refine sZ [6] (fun P S K => XvLoad P 25 (M S.hp S.nx) (S.get 7) (fun r0 _ => XvStore P 25 (M S.hp S.nx) (S.get 6) r0 (fun r1 ef1 => K ⟨[(6, S.get 6)], (Eff.hp ef1 S.nx S.hp), (S.nx + ef1.add.length), S.gh⟩))) fun K hK => ?_
     repeat' (first | (refine hK _ ?_; clear hK K) | refine And.intro ?_ ?_ | exact cl | exact one_encP _ | refine one_take ?_ _ | refine one_drop ?_ _ | (refine st ?_; try simp only [encC, pairs, zeroCase]) | simp only [encC, pairs, zeroCase])
     all_goals
     refine Tri.ret ?_
     show ResR _ _ _ _ _
     first
       | rw [spo_0 (by assumption), hne]
       | rw [spo_1 (by assumption), hne, hke]
       | rw [spo_2 (by assumption), hne]
       | rw [spo_3 (by assumption) (by omega), hke]
       | rw [spo_3n (by assumption) (by omega)]
       | (have hpm : p = runM c k := (by unfold runM; split <;> omega); rw [spo_4 (p := p) (by assumption) (by rw [hke]; exact hpm), hke])
       | (have hjm : j = (62 + around by_ 4).toNat - c.sizes.length := (by omega); rw [spo_5 (by assumption) (by assumption) (by assumption) (by assumption) (by assumption) hjm])
     refine ResR.cell1 (PV.agg [_, _, _]) rfl ?_ (pure_case _)
     first
       | (simp [-List.map_map, sealed, St.obj, lk, encC, ints, pairs, map_sealed_encI, map_sealed_encP, take_map_len, set_encI]; done)
       | (simp [-List.map_map, sealed, St.obj, lk, encC, ints, pairs, map_sealed_encI, map_sealed_encP, take_map_len, List.take_of_length_le, runB_len, encP, encI, List.map_set]; done)
       | (simp [sealed, St.obj, lk, encC, ints, pairs, List.take_of_length_le, runB_len, encP, encI, List.map_set, PV.ren, renL]; done)
    ·try (cases h50; done)
     all_goals (try simp only [CQ] at h50)
     all_goals
     refine sZ [2, 6, 7, 8, 9, 33, 60] (fun P S K => XvBinOV P .eql 3 (.const (.int .i64 2)) (S.get 33) (.atom (.int .i64 2)) (fun r0 _ => K ⟨[(2, S.get 2), (6, S.get 6), (7, S.get 7), (8, S.get 8), (9, S.get 9), (33, S.get 33), (60, r0)], S.hp, S.nx, S.gh⟩)) fun K hK => ?_
     repeat' (first | (refine hK _ ?_; clear hK K) | refine And.intro ?_ ?_ | exact cl | exact one_encP _ | (refine st ?_; try simp only [encC, pairs, zeroCase]) | simp only [encC, pairs, zeroCase])
     all_goals
     refine Tri.cond rfl (fun h60 => ?_) (fun h60 => ?_)
     ·try (cases h60; done)
      all_goals (try simp only [CQ] at h60)
      all_goals
      refine rZ [6, 7] (fun P S K => XvFieldAddr P 25 2 (S.get 7) (fun r0 _ => XvLoad P 23 (M S.hp S.nx) r0 (fun r1 _ => XvBuild P 67 [(0, (S.get 8)), (1, (.atom (.int .i64 0)))] (fun r3 _ => XvBuildS P 23 1 S.nx [(0, r3)] (fun r4 ef4 => (23 = 23 ∧ XvAppend P 23 (M (Eff.hp ef4 S.nx S.hp) (S.nx + ef4.add.length)) r1 r4 (fun r5 ef5 => XvFieldAddr P 25 2 (S.get 7) (fun r6 _ => XvStore P 23 (M (Eff.hp ef5 (S.nx + ef4.add.length) (Eff.hp ef4 S.nx S.hp)) ((S.nx + ef4.add.length) + ef5.add.length)) r6 r5 (fun r7 ef7 => K ⟨[(6, S.get 6), (7, S.get 7)], (Eff.hp ef7 ((S.nx + ef4.add.length) + ef5.add.length) (Eff.hp ef5 (S.nx + ef4.add.length) (Eff.hp ef4 S.nx S.hp))), (((S.nx + ef4.add.length) + ef5.add.length) + ef7.add.length), S.gh⟩))))))))) fun K hK => ?_
      repeat' (first | (refine hK _ ?_; clear hK K) | ((first | refine xG_intro (fun hg => ?_) (fun hg => ?_) | refine fun (hg : (_ : Prop)) => ?_) <;> ((try simp only [BQ] at hg); try (exfalso; omega))) | refine And.intro ?_ ?_ | exact cl | exact one_encP _ | refine one_take ?_ _ | refine one_drop ?_ _ | (refine st ?_; try simp only [encC, pairs, zeroCase]) | simp only [encC, pairs, zeroCase])
      all_goals
      refine sZ [6] (fun P S K => XvLoad P 25 (M S.hp S.nx) (S.get 7) (fun r0 _ => XvStore P 25 (M S.hp S.nx) (S.get 6) r0 (fun r1 ef1 => K ⟨[(6, S.get 6)], (Eff.hp ef1 S.nx S.hp), (S.nx + ef1.add.length), S.gh⟩))) fun K hK => ?_
      repeat' (first | (refine hK _ ?_; clear hK K) | refine And.intro ?_ ?_ | exact cl | exact one_encP _ | refine one_take ?_ _ | refine one_drop ?_ _ | (refine st ?_; try simp only [encC, pairs, zeroCase]) | simp only [encC, pairs, zeroCase])
      all_goals
      refine Tri.ret ?_
      show ResR _ _ _ _ _
      first
        | rw [spo_0 (by assumption), hne]
        | rw [spo_1 (by assumption), hne, hke]
        | rw [spo_2 (by assumption), hne]
        | rw [spo_3 (by assumption) (by omega), hke]
        | rw [spo_3n (by assumption) (by omega)]
        | (have hpm : p = runM c k := (by unfold runM; split <;> omega); rw [spo_4 (p := p) (by assumption) (by rw [hke]; exact hpm), hke])
        | (have hjm : j = (62 + around by_ 4).toNat - c.sizes.length := (by omega); rw [spo_5 (by assumption) (by assumption) (by assumption) (by assumption) (by assumption) hjm])
      refine ResR.cell1 (PV.agg [_, _, _]) rfl ?_ (pure_case _)
      first
        | (simp [-List.map_map, sealed, St.obj, lk, encC, ints, pairs, map_sealed_encI, map_sealed_encP, take_map_len, set_encI]; done)
        | (simp [-List.map_map, sealed, St.obj, lk, encC, ints, pairs, map_sealed_encI, map_sealed_encP, take_map_len, List.take_of_length_le, runB_len, encP, encI, List.map_set]; done)
        | (simp [sealed, St.obj, lk, encC, ints, pairs, List.take_of_length_le, runB_len, encP, encI, List.map_set, PV.ren, renL]; done)
     ·try (cases h60; done)
      all_goals (try simp only [CQ] at h60)
      all_goals
      refine sZ [2, 6, 7, 9, 33, 69] (fun P S K => XvBinOV P .eql 3 (.const (.int .i64 3)) (S.get 33) (.atom (.int .i64 3)) (fun r0 _ => K ⟨[(2, S.get 2), (6, S.get 6), (7, S.get 7), (9, S.get 9), (33, S.get 33), (69, r0)], S.hp, S.nx, S.gh⟩)) fun K hK => ?_
      repeat' (first | (refine hK _ ?_; clear hK K) | refine And.intro ?_ ?_ | exact cl | exact one_encP _ | (refine st ?_; try simp only [encC, pairs, zeroCase]) | simp only [encC, pairs, zeroCase])
      all_goals
      refine Tri.cond rfl (fun h69 => ?_) (fun h69 => ?_)
      ·try (cases h69; done)
       all_goals (try simp only [CQ] at h69)
       all_goals
       refine sZ [2, 6, 7, 9, 74] (fun P S K => XvFieldAddr P 25 0 (S.get 7) (fun r0 _ => XvLoad P 22 (M S.hp S.nx) r0 (fun r1 _ => XvLen P 22 r1 (fun r2 _ => XvBinOV P .gtr 3 (.const (.int .i64 0)) r2 (.atom (.int .i64 0)) (fun r3 _ => K ⟨[(2, S.get 2), (6, S.get 6), (7, S.get 7), (9, S.get 9), (74, r3)], S.hp, S.nx, S.gh⟩))))) fun K hK => ?_
       repeat' (first | (refine hK _ ?_; clear hK K) | refine And.intro ?_ ?_ | exact cl | exact one_encP _ | refine one_take ?_ _ | refine one_drop ?_ _ | (refine st ?_; try simp only [encC, pairs, zeroCase]) | simp only [encC, pairs, zeroCase])
       all_goals
       refine Tri.cond rfl (fun h74 => ?_) (fun h74 => ?_)
       ·try (cases h74; done)
        all_goals (try simp only [CQ] at h74)
        all_goals
        have hkl : k.toNat < c.sizes.length := by omega
        refine rD 9 [6, 7] (fun P GD S K => XvFieldAddr P 25 0 (S.get 7) (fun r0 ef0 => XvLoad P 22 (M S.hp S.nx) r0 (fun r1 ef1 => XvBuildS P 22 5 S.nx [(0, (.atom (.int .i64 0))), (1, (.atom (.int .i64 (-1)))), (2, (.atom (.int .i64 1))), (3, (.atom (.int .i64 1024))), (4, (.atom (.int .i64 1025)))] (fun r3 ef3 => XvFnV P (M (Eff.hp ef3 S.nx S.hp) (S.nx + ef3.add.length)) (.fn 35 []) [(S.get 2), (.atom (.int .i64 5))] (fun r5 ef5 => XvIndexAddr P 22 r3 r5 (fun r6 ef6 => XvLoad P 3 (M (Eff.hp ef5 (S.nx + ef3.add.length) (Eff.hp ef3 S.nx S.hp)) ((S.nx + ef3.add.length) + ef5.add.length)) r6 (fun r7 ef7 => XvIndexAddr P 22 r1 (S.get 9) (fun r8 ef8 => (trOk S.nx GD [⟨S.nx, 0, ef0.rd, [], []⟩, ⟨S.nx, 0, ef1.rd, [], []⟩, ⟨S.nx, 0, [], [], []⟩, (Eff.tr ef3 S.nx), ⟨(S.nx + ef3.add.length), 0, [], [], []⟩, (Eff.tr ef5 (S.nx + ef3.add.length)), ⟨((S.nx + ef3.add.length) + ef5.add.length), 0, ef6.rd, [], []⟩, ⟨((S.nx + ef3.add.length) + ef5.add.length), 0, ef7.rd, [], []⟩, ⟨((S.nx + ef3.add.length) + ef5.add.length), 0, ef8.rd, [], []⟩] = true ∧ XvStore P 3 (M (Eff.hp ef5 (S.nx + ef3.add.length) (Eff.hp ef3 S.nx S.hp)) ((S.nx + ef3.add.length) + ef5.add.length)) r8 r7 (fun r9 ef9 => K ⟨[(6, S.get 6), (7, S.get 7)], (Eff.hp ef9 ((S.nx + ef3.add.length) + ef5.add.length) (Eff.hp ef5 (S.nx + ef3.add.length) (Eff.hp ef3 S.nx S.hp))), (((S.nx + ef3.add.length) + ef5.add.length) + ef9.add.length), S.gh⟩)))))))))) fun K hK => ?_
        repeat' (first | (refine hK _ ?_; clear hK K) | (refine (?_ : trOk _ _ _ = true); kernel_rfl) | refine And.intro ?_ ?_ | exact cl | exact one_encP _ | refine one_take ?_ _ | refine one_drop ?_ _ | refine .inl ⟨_, _, Around_pure how 6 hh (by decide), ?_⟩ | refine ⟨_, _, Around_pure how 6 hh (by decide), ?_⟩ | refine .inl ⟨_, _, Around_pure by_ 9 hb (by decide), ?_⟩ | refine ⟨_, _, Around_pure by_ 9 hb (by decide), ?_⟩ | refine .inl ⟨_, _, Around_pure (by_.tdiv 3) (max (c.sizes.length : Int) 1) hq (by omega), ?_⟩ | refine ⟨_, _, Around_pure (by_.tdiv 3) (max (c.sizes.length : Int) 1) hq (by omega), ?_⟩ | refine .inl ⟨_, _, Around_pure by_ 5 hb (by decide), ?_⟩ | refine ⟨_, _, Around_pure by_ 5 hb (by decide), ?_⟩ | refine .inl ⟨_, _, Around_pure by_ 4 hb (by decide), ?_⟩ | refine ⟨_, _, Around_pure by_ 4 hb (by decide), ?_⟩ | (refine st ?_; try simp only [encC, pairs, zeroCase, hg5, getD_encI hkl]) | simp only [encC, pairs, zeroCase, hg5, getD_encI hkl])
        all_goals
        refine sZ [6] (fun P S K => XvLoad P 25 (M S.hp S.nx) (S.get 7) (fun r0 _ => XvStore P 25 (M S.hp S.nx) (S.get 6) r0 (fun r1 ef1 => K ⟨[(6, S.get 6)], (Eff.hp ef1 S.nx S.hp), (S.nx + ef1.add.length), S.gh⟩))) fun K hK => ?_
        repeat' (first | (refine hK _ ?_; clear hK K) | refine And.intro ?_ ?_ | exact cl | exact one_encP _ | refine one_take ?_ _ | refine one_drop ?_ _ | (refine st ?_; try simp only [encC, pairs, zeroCase]) | simp only [encC, pairs, zeroCase])
        all_goals
        refine Tri.ret ?_
        show ResR _ _ _ _ _
        first
          | rw [spo_0 (by assumption), hne]
          | rw [spo_1 (by assumption), hne, hke]
          | rw [spo_2 (by assumption), hne]
          | rw [spo_3 (by assumption) (by omega), hke]
          | rw [spo_3n (by assumption) (by omega)]
          | (have hpm : p = runM c k := (by unfold runM; split <;> omega); rw [spo_4 (p := p) (by assumption) (by rw [hke]; exact hpm), hke])
          | (have hjm : j = (62 + around by_ 4).toNat - c.sizes.length := (by omega); rw [spo_5 (by assumption) (by assumption) (by assumption) (by assumption) (by assumption) hjm])
        refine ResR.cell1 (PV.agg [_, _, _]) rfl ?_ (pure_case _)
        first
          | (simp [-List.map_map, sealed, St.obj, lk, encC, ints, pairs, map_sealed_encI, map_sealed_encP, take_map_len, set_encI]; done)
          | (simp [-List.map_map, sealed, St.obj, lk, encC, ints, pairs, map_sealed_encI, map_sealed_encP, take_map_len, List.take_of_length_le, runB_len, encP, encI, List.map_set]; done)
          | (simp [sealed, St.obj, lk, encC, ints, pairs, List.take_of_length_le, runB_len, encP, encI, List.map_set, PV.ren, renL]; done)
       ·try (cases h74; done)
        all_goals (try simp only [CQ] at h74)
        all_goals
        refine Tri.skip ?_
        refine sZ [6] (fun P S K => XvLoad P 25 (M S.hp S.nx) (S.get 7) (fun r0 _ => XvStore P 25 (M S.hp S.nx) (S.get 6) r0 (fun r1 ef1 => K ⟨[(6, S.get 6)], (Eff.hp ef1 S.nx S.hp), (S.nx + ef1.add.length), S.gh⟩))) fun K hK => ?_
        repeat' (first | (refine hK _ ?_; clear hK K) | refine And.intro ?_ ?_ | exact cl | exact one_encP _ | refine one_take ?_ _ | refine one_drop ?_ _ | (refine st ?_; try simp only [encC, pairs, zeroCase]) | simp only [encC, pairs, zeroCase])
        all_goals
        refine Tri.ret ?_
        show ResR _ _ _ _ _
        first
          | rw [spo_0 (by assumption), hne]
          | rw [spo_1 (by assumption), hne, hke]
          | rw [spo_2 (by assumption), hne]
          | rw [spo_3 (by assumption) (by omega), hke]
          | rw [spo_3n (by assumption) (by omega)]
          | (have hpm : p = runM c k := (by unfold runM; split <;> omega); rw [spo_4 (p := p) (by assumption) (by rw [hke]; exact hpm), hke])
          | (have hjm : j = (62 + around by_ 4).toNat - c.sizes.length := (by omega); rw [spo_5 (by assumption) (by assumption) (by assumption) (by assumption) (by assumption) hjm])
        refine ResR.cell1 (PV.agg [_, _, _]) rfl ?_ (pure_case _)
        first
          | (simp [-List.map_map, sealed, St.obj, lk, encC, ints, pairs, map_sealed_encI, map_sealed_encP, take_map_len, set_encI]; done)
          | (simp [-List.map_map, sealed, St.obj, lk, encC, ints, pairs, map_sealed_encI, map_sealed_encP, take_map_len, List.take_of_length_le, runB_len, encP, encI, List.map_set]; done)
          | (simp [sealed, St.obj, lk, encC, ints, pairs, List.take_of_length_le, runB_len, encP, encI, List.map_set, PV.ren, renL]; done)
      ·try (cases h69; done)
       all_goals (try simp only [CQ] at h69)
       all_goals
       refine sZ [2, 6, 7, 9, 84] (fun P S K => XvBinOV P .eql 3 (.const (.int .i64 4)) (S.get 33) (.atom (.int .i64 4)) (fun r0 _ => K ⟨[(2, S.get 2), (6, S.get 6), (7, S.get 7), (9, S.get 9), (84, r0)], S.hp, S.nx, S.gh⟩)) fun K hK => ?_
       repeat' (first | (refine hK _ ?_; clear hK K) | refine And.intro ?_ ?_ | exact cl | exact one_encP _ | (refine st ?_; try simp only [encC, pairs, zeroCase]) | simp only [encC, pairs, zeroCase])
       all_goals
       refine Tri.cond rfl (fun h84 => ?_) (fun h84 => ?_)
       ·try (cases h84; done)
        all_goals (try simp only [CQ] at h84)
        all_goals
        refine sZ [6, 7, 9, 10] (fun P S K => K ⟨[(6, S.get 6), (7, S.get 7), (9, S.get 9), (10, (.atom (.int .i64 0)))], S.hp, S.nx, S.gh⟩) fun K hK => ?_
        repeat' (first | (refine hK _ ?_; clear hK K) | refine And.intro ?_ ?_ | exact cl | exact one_encP _ | (refine st ?_; try simp only [encC, pairs, zeroCase]) | simp only [encC, pairs, zeroCase])
        all_goals
        refine Tri.block ?_
        refine Tri.loop (α := (p : Nat) ×' ((p : Int) ≤ c.people - 1 ∧ (0 < p → k < c.sizes.length))) (fun z => (fun (p : Nat) => (⟨[(6, .ptr 0 3 0 0), (7, .ptr 1 3 0 0), (9, encI k), (10, encI p)], [(0, some ⟨3, [zeroCase]⟩), (1, some ⟨3, [.agg [.ob 2 1 0 c.sizes.length, encI c.people, .ob 3 2 0 (c.bars.length + p)]]⟩), (2, some ⟨1, c.sizes.map encI⟩), (3, some ⟨2, (c.bars ++ runB k p).map encP⟩)], 4, []⟩ : St)) z.1) (fun z => (fun (p : Nat) => 6 - p) z.1) ⟨0, ⟨by omega, fun h => absurd h (Nat.lt_irrefl _)⟩⟩ [0, 1, 2, 3] ?_ ?_
        ·exact leqB17
        ·rintro ⟨p, ⟨hp, hpk⟩⟩
         have hrl := runB_len k p
         refine Tri.seq ?_
         refine sZ [6, 7, 9, 10, 101] (fun P S K => XvBinOV P .add 3 (.const (.int .i64 1)) (S.get 10) (.atom (.int .i64 1)) (fun r1 _ => XvFieldAddr P 25 1 (S.get 7) (fun r2 _ => XvLoad P 3 (M S.hp S.nx) r2 (fun r3 _ => XvBinOV P .lss 3 (.tmp 89) r1 r3 (fun r4 _ => Xgq r4 true (fun k => k (S.get 10)) (fun g6 r6 => Xgq g6 true (fun k => XvBinOV P .lss 3 (.const (.int .i64 6)) r6 (.atom (.int .i64 6)) (fun r7 _ => k r7)) (fun g7 r7 => XvPick g7 r7 (.atom (.bool false)) (fun r8 _ => Xgq r8 true (fun k => k (S.get 9)) (fun g10 r10 => Xgq g10 true (fun k => XvFieldAddr P 25 0 (S.get 7) (fun r11 _ => k r11)) (fun g11 r11 => Xgq g11 true (fun k => XvLoad P 22 (M S.hp S.nx) r11 (fun r12 _ => k r12)) (fun g12 r12 => Xgq g12 true (fun k => XvLen P 22 r12 (fun r13 _ => k r13)) (fun g13 r13 => Xgq g13 true (fun k => XvBinOV P .lss 3 (.tmp 99) r10 r13 (fun r14 _ => k r14)) (fun g14 r14 => XvPick g14 r14 (.atom (.bool false)) (fun r15 _ => K ⟨[(6, S.get 6), (7, S.get 7), (9, S.get 9), (10, S.get 10), (101, r15)], S.hp, S.nx, S.gh⟩)))))))))))))) fun K hK => ?_
         repeat' (first | (refine hK _ ?_; clear hK K) | ((first | refine xG_intro (fun hg => ?_) (fun hg => ?_) | refine fun (hg : (_ : Prop)) => ?_) <;> ((try simp only [BQ] at hg); try (exfalso; omega))) | refine And.intro ?_ ?_ | exact cl | exact one_encP _ | refine one_take ?_ _ | refine one_drop ?_ _ | (refine st ?_; try simp only [encC, pairs, zeroCase, wrap_id (x := (p : Int) + 1) (by omega) (by omega)]) | simp only [encC, pairs, zeroCase, wrap_id (x := (p : Int) + 1) (by omega) (by omega)])
         all_goals try simp (disch := omega) only [wrap_id, wrap8_id]
         all_goals
         refine Tri.cond rfl (fun h101 => ?_) (fun h101 => ?_)
         ·try (cases h101; done)
          all_goals (try simp only [CQ] at h101)
          all_goals
          refine Tri.skip ?_
          refine Tri.seq ?_
          refine Tri.block ?_
          refine rZ [6, 7, 9, 10] (fun P S K => XvFieldAddr P 25 2 (S.get 7) (fun r0 _ => XvLoad P 23 (M S.hp S.nx) r0 (fun r1 _ => XvBuild P 67 [(0, (S.get 9)), (1, (S.get 10))] (fun r4 _ => XvBuildS P 23 1 S.nx [(0, r4)] (fun r5 ef5 => (23 = 23 ∧ XvAppend P 23 (M (Eff.hp ef5 S.nx S.hp) (S.nx + ef5.add.length)) r1 r5 (fun r6 ef6 => XvFieldAddr P 25 2 (S.get 7) (fun r7 _ => XvStore P 23 (M (Eff.hp ef6 (S.nx + ef5.add.length) (Eff.hp ef5 S.nx S.hp)) ((S.nx + ef5.add.length) + ef6.add.length)) r7 r6 (fun r8 ef8 => K ⟨[(6, S.get 6), (7, S.get 7), (9, S.get 9), (10, S.get 10)], (Eff.hp ef8 ((S.nx + ef5.add.length) + ef6.add.length) (Eff.hp ef6 (S.nx + ef5.add.length) (Eff.hp ef5 S.nx S.hp))), (((S.nx + ef5.add.length) + ef6.add.length) + ef8.add.length), S.gh⟩))))))))) fun K hK => ?_
          repeat' (first | (refine hK _ ?_; clear hK K) | ((first | refine xG_intro (fun hg => ?_) (fun hg => ?_) | refine fun (hg : (_ : Prop)) => ?_) <;> ((try simp only [BQ] at hg); try (exfalso; omega))) | refine And.intro ?_ ?_ | exact cl | exact one_encP _ | refine one_take ?_ _ | refine one_drop ?_ _ | (refine st ?_; try simp only [encC, pairs, zeroCase, runB_len, List.length_append]) | simp only [encC, pairs, zeroCase, runB_len, List.length_append])
          all_goals
          refine rZ [6, 7, 9, 10] (fun P S K => XvBinOV P .add 3 (.const (.int .i64 1)) (S.get 10) (.atom (.int .i64 1)) (fun r1 _ => K ⟨[(6, S.get 6), (7, S.get 7), (9, S.get 9), (10, r1)], S.hp, S.nx, S.gh⟩)) fun K hK => ?_
          repeat' (first | (refine hK _ ?_; clear hK K) | refine And.intro ?_ ?_ | exact cl | exact one_encP _ | (refine st ?_; try simp only [encC, pairs, zeroCase]) | simp only [encC, pairs, zeroCase])
          all_goals try simp (disch := omega) only [wrap_id, wrap8_id]
          all_goals
          refine ⟨⟨p + 1, by omega, by omega⟩, [0, 1, 2, 5], by dsimp only; omega, ?_⟩
          dsimp only
          rw [show c.bars.length + (p + 1) = c.bars.length + p + 1 from rfl, runB, ← List.append_assoc]
          exact leqB17
         ·try (cases h101; done)
          all_goals (try simp only [CQ] at h101)
          all_goals
          refine Tri.exit ?_
          refine sZ [6] (fun P S K => XvLoad P 25 (M S.hp S.nx) (S.get 7) (fun r0 _ => XvStore P 25 (M S.hp S.nx) (S.get 6) r0 (fun r1 ef1 => K ⟨[(6, S.get 6)], (Eff.hp ef1 S.nx S.hp), (S.nx + ef1.add.length), S.gh⟩))) fun K hK => ?_
          repeat' (first | (refine hK _ ?_; clear hK K) | refine And.intro ?_ ?_ | exact cl | exact one_encP _ | refine one_take ?_ _ | refine one_drop ?_ _ | (refine st ?_; try simp only [encC, pairs, zeroCase]) | simp only [encC, pairs, zeroCase])
          all_goals
          refine Tri.ret ?_
          show ResR _ _ _ _ _
          first
            | rw [spo_0 (by assumption), hne]
            | rw [spo_1 (by assumption), hne, hke]
            | rw [spo_2 (by assumption), hne]
            | rw [spo_3 (by assumption) (by omega), hke]
            | rw [spo_3n (by assumption) (by omega)]
            | (have hpm : p = runM c k := (by unfold runM; split <;> omega); rw [spo_4 (p := p) (by assumption) (by rw [hke]; exact hpm), hke])
            | (have hjm : j = (62 + around by_ 4).toNat - c.sizes.length := (by omega); rw [spo_5 (by assumption) (by assumption) (by assumption) (by assumption) (by assumption) hjm])
          refine ResR.cell1 (PV.agg [_, _, _]) rfl ?_ (pure_case _)
          first
            | (simp [-List.map_map, sealed, St.obj, lk, encC, ints, pairs, map_sealed_encI, map_sealed_encP, take_map_len, set_encI]; done)
            | (simp [-List.map_map, sealed, St.obj, lk, encC, ints, pairs, map_sealed_encI, map_sealed_encP, take_map_len, List.take_of_length_le, runB_len, encP, encI, List.map_set]; done)
            | (simp [sealed, St.obj, lk, encC, ints, pairs, List.take_of_length_le, runB_len, encP, encI, List.map_set, PV.ren, renL]; done)
       ·try (cases h84; done)
        all_goals (try simp only [CQ] at h84)
        all_goals
        refine Tri.block ?_
        refine Tri.loop (α := (j : Nat) ×' (j ≤ 65 ∧ (0 < j → (c.sizes.length : Int) + j ≤ 62 + around by_ 4))) (fun z => (fun (j : Nat) => (⟨[(2, encI by_), (6, .ptr 0 3 0 0), (7, .ptr 1 3 0 0)], [(0, some ⟨3, [zeroCase]⟩), (1, some ⟨3, [.agg [.ob 2 1 0 (c.sizes.length + j), encI c.people, .ob 3 2 0 c.bars.length]]⟩), (2, some ⟨1, (c.sizes ++ List.replicate j 1).map encI⟩), (3, some ⟨2, c.bars.map encP⟩)], 4, []⟩ : St)) z.1) (fun z => (fun (j : Nat) => 70 - j) z.1) ⟨0, ⟨by omega, fun h => absurd h (Nat.lt_irrefl _)⟩⟩ [0, 1, 2, 3] ?_ ?_
        ·exact leqB17
        ·rintro ⟨j, ⟨hj, hj2⟩⟩
         refine Tri.seq ?_
         refine sD 7 [2, 6, 7, 40] (fun P GD S K => XvFieldAddr P 25 0 (S.get 7) (fun r0 ef0 => XvLoad P 22 (M S.hp S.nx) r0 (fun r1 ef1 => XvLen P 22 r1 (fun r2 ef2 => XvFnV P (M S.hp S.nx) (.fn 35 []) [(S.get 2), (.atom (.int .i64 4))] (fun r4 ef4 => XvBinOV P .add 3 (.tmp 38) (.atom (.int .i64 62)) r4 (fun r5 ef5 => XvBinOV P .lss 3 (.tmp 39) r2 r5 (fun r6 ef6 => (trOk S.nx GD [⟨S.nx, 0, ef0.rd, [], []⟩, ⟨S.nx, 0, ef1.rd, [], []⟩, ⟨S.nx, 0, ef2.rd, [], []⟩, ⟨S.nx, 0, [], [], []⟩, (Eff.tr ef4 S.nx), ⟨(S.nx + ef4.add.length), 0, ef5.rd, [], []⟩, ⟨(S.nx + ef4.add.length), 0, ef6.rd, [], []⟩] = true ∧ K ⟨[(2, S.get 2), (6, S.get 6), (7, S.get 7), (40, r6)], (Eff.hp ef4 S.nx S.hp), (S.nx + ef4.add.length), S.gh⟩)))))))) fun K hK => ?_
         repeat' (first | (refine hK _ ?_; clear hK K) | (refine (?_ : trOk _ _ _ = true); kernel_rfl) | refine And.intro ?_ ?_ | exact cl | exact one_encP _ | refine one_take ?_ _ | refine one_drop ?_ _ | refine .inl ⟨_, _, Around_pure how 6 hh (by decide), ?_⟩ | refine ⟨_, _, Around_pure how 6 hh (by decide), ?_⟩ | refine .inl ⟨_, _, Around_pure by_ 9 hb (by decide), ?_⟩ | refine ⟨_, _, Around_pure by_ 9 hb (by decide), ?_⟩ | refine .inl ⟨_, _, Around_pure (by_.tdiv 3) (max (c.sizes.length : Int) 1) hq (by omega), ?_⟩ | refine ⟨_, _, Around_pure (by_.tdiv 3) (max (c.sizes.length : Int) 1) hq (by omega), ?_⟩ | refine .inl ⟨_, _, Around_pure by_ 5 hb (by decide), ?_⟩ | refine ⟨_, _, Around_pure by_ 5 hb (by decide), ?_⟩ | refine .inl ⟨_, _, Around_pure by_ 4 hb (by decide), ?_⟩ | refine ⟨_, _, Around_pure by_ 4 hb (by decide), ?_⟩ | (refine st ?_; try simp only [encC, pairs, zeroCase]) | simp only [encC, pairs, zeroCase])
         all_goals try simp (disch := omega) only [wrap_id, wrap8_id]
         all_goals
         refine Tri.cond rfl (fun h40 => ?_) (fun h40 => ?_)
         ·try (cases h40; done)
          all_goals (try simp only [CQ] at h40)
          all_goals
          refine Tri.skip ?_
          refine Tri.block ?_
          refine rZ [2, 6, 7] (fun P S K => XvFieldAddr P 25 0 (S.get 7) (fun r0 _ => XvLoad P 22 (M S.hp S.nx) r0 (fun r1 _ => XvBuildS P 22 1 S.nx [(0, (.atom (.int .i64 1)))] (fun r2 ef2 => (22 = 22 ∧ XvAppend P 22 (M (Eff.hp ef2 S.nx S.hp) (S.nx + ef2.add.length)) r1 r2 (fun r3 ef3 => XvFieldAddr P 25 0 (S.get 7) (fun r4 _ => XvStore P 22 (M (Eff.hp ef3 (S.nx + ef2.add.length) (Eff.hp ef2 S.nx S.hp)) ((S.nx + ef2.add.length) + ef3.add.length)) r4 r3 (fun r5 ef5 => K ⟨[(2, S.get 2), (6, S.get 6), (7, S.get 7)], (Eff.hp ef5 ((S.nx + ef2.add.length) + ef3.add.length) (Eff.hp ef3 (S.nx + ef2.add.length) (Eff.hp ef2 S.nx S.hp))), (((S.nx + ef2.add.length) + ef3.add.length) + ef5.add.length), S.gh⟩)))))))) fun K hK => ?_
          repeat' (first | (refine hK _ ?_; clear hK K) | ((first | refine xG_intro (fun hg => ?_) (fun hg => ?_) | refine fun (hg : (_ : Prop)) => ?_) <;> ((try simp only [BQ] at hg); try (exfalso; omega))) | refine And.intro ?_ ?_ | exact cl | exact one_encP _ | refine one_take ?_ _ | refine one_drop ?_ _ | (refine st ?_; try simp only [encC, pairs, zeroCase]) | simp only [encC, pairs, zeroCase])
          all_goals
          refine ⟨⟨j + 1, by omega, by omega⟩, [0, 1, 5, 3], by dsimp only; omega, ?_⟩
          dsimp only
          rw [show c.sizes.length + (j + 1) = c.sizes.length + j + 1 from rfl, List.replicate_succ', ← List.append_assoc]
          exact leqB17
         ·try (cases h40; done)
          all_goals (try simp only [CQ] at h40)
          all_goals
          refine Tri.exit ?_
          refine sZ [6] (fun P S K => XvLoad P 25 (M S.hp S.nx) (S.get 7) (fun r0 _ => XvStore P 25 (M S.hp S.nx) (S.get 6) r0 (fun r1 ef1 => K ⟨[(6, S.get 6)], (Eff.hp ef1 S.nx S.hp), (S.nx + ef1.add.length), S.gh⟩))) fun K hK => ?_
          repeat' (first | (refine hK _ ?_; clear hK K) | refine And.intro ?_ ?_ | exact cl | exact one_encP _ | refine one_take ?_ _ | refine one_drop ?_ _ | (refine st ?_; try simp only [encC, pairs, zeroCase]) | simp only [encC, pairs, zeroCase])
          all_goals
          refine Tri.ret ?_
          show ResR _ _ _ _ _
          first
            | rw [spo_0 (by assumption), hne]
            | rw [spo_1 (by assumption), hne, hke]
            | rw [spo_2 (by assumption), hne]
            | rw [spo_3 (by assumption) (by omega), hke]
            | rw [spo_3n (by assumption) (by omega)]
            | (have hpm : p = runM c k := (by unfold runM; split <;> omega); rw [spo_4 (p := p) (by assumption) (by rw [hke]; exact hpm), hke])
            | (have hjm : j = (62 + around by_ 4).toNat - c.sizes.length := (by omega); rw [spo_5 (by assumption) (by assumption) (by assumption) (by assumption) (by assumption) hjm])
          refine ResR.cell1 (PV.agg [_, _, _]) rfl ?_ (pure_case _)
          first
            | (simp [-List.map_map, sealed, St.obj, lk, encC, ints, pairs, map_sealed_encI, map_sealed_encP, take_map_len, set_encI]; done)
            | (simp [-List.map_map, sealed, St.obj, lk, encC, ints, pairs, map_sealed_encI, map_sealed_encP, take_map_len, List.take_of_length_le, runB_len, encP, encI, List.map_set]; done)
            | (simp [sealed, St.obj, lk, encC, ints, pairs, List.take_of_length_le, runB_len, encP, encI, List.map_set, PV.ren, renL]; done)
end Go.Proofs.Ytcdeilgijleoaaa
