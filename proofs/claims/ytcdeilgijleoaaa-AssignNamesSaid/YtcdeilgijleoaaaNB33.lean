/-
  Walks: best of package assign.
-/
import Derived.Test.YtcdeilgijleoaaaNB49
import Derived.Test.YtcdeilgijleoaaaNA1
import Derived.Test.YtcdeilgijleoaaaNB48
import Derived.Test.YtcdeilgijleoaaaNVR
import Derived.Test.YtcdeilgijleoaaaNA2
set_option linter.all false
namespace Go.Proofs.Ytcdeilgijleoaaa
open Go Go.RowKit
set_option maxRecDepth 20000
set_option maxHeartbeats 1000000
theorem run_proc {P : Program} {tbl : CallT} {memo : Memo} {k : Nat} {f : FuncId} {a : List PV} {h : List AO} {x : CallR} (ht : CallOk P tbl) (hm : P.follows .mixedOrders = true) (he : sameR (gRun P tbl memo k f a h) x = true) (hne : h ≠ []) : Proc P f a h x.1 x.2.1 x.2.2 := by
  obtain ⟨r, hp', os⟩ := x
  exact (gRun_ok ht hm k _ _ _ _ _ _ (sameR_eq he)).2 hne
theorem sort_of {n : Nat} (hn : 1 ≤ 2 ^ n) (h : Proc Try.prog 73 (sortA n) (sortH n) (sortR n).1 (sortR n).2.1 (sortR n).2.2) : Proc Try.prog 73 [.ob 0 1 0 (2 ^ n - 1), .fn 74 []] [⟨1, (upN (2 ^ n - 1)).map encN⟩] (.tup []) [some ⟨1, (orderN n).map encN⟩] [] := by
  unfold upN
  rw [show 2 ^ n - 1 + 1 = 2 ^ n by omega]
  exact h
theorem sort_proc {n : Int} (h2 : 2 ≤ n) (h6 : n ≤ 6) : Proc Try.prog 73 [.ob 0 1 0 (2 ^ n.toNat - 1), .fn 74 []] [⟨1, (upN (2 ^ n.toNat - 1)).map encN⟩] (.tup []) [some ⟨1, (orderN n.toNat).map encN⟩] [] := by
  obtain rfl | rfl | rfl | rfl | rfl : n = 2 ∨ n = 3 ∨ n = 4 ∨ n = 5 ∨ n = 6 := by omega
  · exact sort_of (n := 2) (by decide) (run_proc tblS_ok mixed run_sort2 (by simp [sortH]))
  · exact sort_of (n := 3) (by decide) (run_proc tblS_ok mixed run_sort3 (by simp [sortH]))
  · exact sort_of (n := 4) (by decide) (run_proc tblS_ok mixed run_sort4 (by simp [sortH]))
  · exact sort_of (n := 5) (by decide) (run_proc tblS_ok mixed run_sort5 (by simp [sortH]))
  · exact sort_of (n := 6) (by decide) (run_proc tblZ_ok mixed run_sort6 (by simp [sortH]))
theorem aBest_pure (c : CaseD) (hG : Good c) (hbl : c.bars.length ≤ 1000000) : Pure Try.prog 53 [encC c] (encCert (bestS c)) [] := best_walk c hG hbl (sort_proc hG.lo hG.hi)
set_option maxHeartbeats 2000000
def Tail (c : CaseD) : Prop := ∀ j : Nat, 20 ≤ j → j < c.sizes.length → ∀ i : Nat, i < c.sizes.length → li c.sizes j ≤ li c.sizes i
theorem bit_open1 (c : CaseD) (i : Int) {p : Nat} (h1 : (p : Int) < c.people) (h2 : c.people ≤ 6) : decide (bits .and .u64 (((maskN (fun (p : Nat) => openB c i p) c.people.toNat : Nat) : Int).fdiv (2 ^ min p IntKind.u64.bits)) 1 = 1) = openB c i p := by
  have := mask_bit (fun (p : Nat) => openB c i p) (n := c.people.toNat) (p := p) (by omega) (by omega)
  show decide (bits .and .u64 (((maskN (fun (p : Nat) => openB c i p) c.people.toNat : Nat) : Int).fdiv (2 ^ min p 64)) 1 = 1) = openB c i p
  rw [this]
  cases openB c i p <;> rfl
theorem fillI_len {i n : Nat} (h : i ≤ n) : (nI (List.range i) ++ List.replicate (n - i) 0).length = n := by simp [nI]; omega
theorem fillI_set {i n : Nat} (h : i < n) : (nI (List.range i) ++ List.replicate (n - i) 0).set i (i : Int) = nI (List.range (i + 1)) ++ List.replicate (n - (i + 1)) 0 := by
  have e : n - i = (n - (i + 1)) + 1 := by omega
  rw [e, List.replicate_succ, List.set_append_right _ _ (by simp [nI])]
  simp [nI, List.range_succ]
theorem openL_six (c : CaseD) (i : Int) {n : Nat} (h : n ≤ 6) : (openL c i n).length ≤ 6 := by rw [openL_len]; have := openN_le c i n; omega
theorem aQuick_pure (c : CaseD) (hG : Good c) (hbl : c.bars.length ≤ 1000000) (ht : Tail c) : Pure Try.prog 50 [encC c] (pairs (quickS c)) [] := by
  have hmany := hG.many
  have hlo := hG.lo
  have hhi := hG.hi
  obtain ⟨o1, o2, o3⟩ := ordL_facts c
  have hrl : (nI (List.range c.sizes.length)).length = c.sizes.length := by rw [nI_len, List.length_range]
  have hrm : ∀ x, x ∈ nI (List.range c.sizes.length) → 0 ≤ x ∧ x < c.sizes.length := fun x hx => by
    obtain ⟨a, h1, rfl⟩ := List.mem_map.1 hx
    have := List.mem_range.1 h1; omega
  have hrj : ∀ j, j < c.sizes.length → li (nI (List.range c.sizes.length)) j = j := fun j hj => by
    unfold li nI; simp [List.getD_eq_getElem?_getD, hj]
  have hs := sortStable_proc 68 (.fptr 3 [encC c] 0 0) (szC c) (szK c) (nI (List.range c.sizes.length)) (by simp [PV.pure, pureL, pure_case]) (by omega) (fun x y hx hy => quick1_pure c x y (hrm x hx) (hrm y hy)) (szC_key c) (fun j h20 hj x hx => by
    rw [hrl] at hj
    rw [szC_key c, hrj j hj]
    unfold szK
    have := ht j h20 hj x.toNat (by have := hrm x hx; omega)
    simp only [Int.toNat_natCast]; omega)
  rw [hrl, show sortedL (szC c) (nI (List.range c.sizes.length)) = ordL c from rfl] at hs
  refine Pure.intro (ts := [2]) Try.func50 (by kernel_rfl) rfl rfl rfl (Nat.le_of_ble_eq_true rfl) ?_ ?_
  · simp [pure_case, encI, PV.pure, pureL]
  refine sZ [1] (fun P S K => XvBox S.nx (S.get 0) (fun r0 ef0 => K ⟨[(1, r0)], (Eff.hp ef0 S.nx S.hp), (S.nx + ef0.add.length), S.gh⟩)) fun K hK => ?_
  repeat' (first | (refine hK _ ?_; clear hK K) | refine And.intro ?_ ?_ | exact cl | exact one_encP _ | exact flat_encI _ | (refine st ?_; try simp only [encC, pairs]) | simp only [encC, pairs])
  all_goals
  refine sZ [1, 3] (fun P S K => XvLoad P 38 (M S.hp S.nx) (S.get 1) (fun r0 _ => XvFnIV P (M S.hp S.nx) (.fn 46 []) [r0] (fun r1 ef1 => K ⟨[(1, S.get 1), (3, r1)], (Eff.hp ef1 S.nx S.hp), (S.nx + ef1.add.length), S.gh⟩))) fun K hK => ?_
  repeat' (first | (refine hK _ ?_; clear hK K) | refine And.intro ?_ ?_ | exact cl | exact one_encP _ | exact flat_encI _ | refine one_take ?_ _ | refine one_drop ?_ _ | refine .inl ⟨_, _, open_pure c hG.five hbl, ?_⟩ | refine .inr (vProc.row 3 1 hs rfl (pureL_encI _) (pureL_encI _) rfl (by simp [sealed, PV.ren, renL, rmap, St.obj, lk, encC, pairs, ints, encI, renL_encP, map_sealed_encP, map_sealed_encI, renL_encI]) rfl (flat_encI _) ?_) | refine .inr (vProc.row 4 1 hs2 rfl (pureL_encI _) (pureL_encI _) rfl (by simp [-List.map_map, sealed, PV.ren, renL, rmap, St.obj, lk, ints, map_sealed_encI, renL_encI, hql, List.take_of_length_le]) rfl (flat_encI _) ?_) | (refine st ?_; try simp only [encC, pairs, nats, renL_encN]) | simp only [encC, pairs, nats, renL_encN])
  all_goals
  refine sZ [1, 3, 4] (fun P S K => XvFieldAddr P 38 1 (S.get 1) (fun r0 _ => XvLoad P 3 (M S.hp S.nx) r0 (fun r1 _ => XvMake P 22 (M S.hp S.nx) r1 r1 (fun r2 ef2 => XvAlloc P 22 (S.nx + ef2.add.length) (fun r3 ef3 => XvStore P 22 (M (Eff.hp ef3 (S.nx + ef2.add.length) (Eff.hp ef2 S.nx S.hp)) ((S.nx + ef2.add.length) + ef3.add.length)) r3 r2 (fun r4 ef4 => K ⟨[(1, S.get 1), (3, S.get 3), (4, r3)], (Eff.hp ef4 ((S.nx + ef2.add.length) + ef3.add.length) (Eff.hp ef3 (S.nx + ef2.add.length) (Eff.hp ef2 S.nx S.hp))), (((S.nx + ef2.add.length) + ef3.add.length) + ef4.add.length), S.gh⟩)))))) fun K hK => ?_
  repeat' (first | (refine hK _ ?_; clear hK K) | ((first | refine xG_intro (fun hg => ?_) (fun hg => ?_) | refine fun (hg : (_ : Prop)) => ?_) <;> ((try simp only [BQ] at hg); try (exfalso; omega))) | refine And.intro ?_ ?_ | exact cl | exact one_encP _ | exact flat_encI _ | refine one_take ?_ _ | refine one_drop ?_ _ | (refine st ?_; try simp only [encC, pairs]) | simp only [encC, pairs])
  rw [zeros_I]
  all_goals
  refine sZ [1, 3, 4, 5] (fun P S K => XvFieldAddr P 38 0 (S.get 1) (fun r0 _ => XvLoad P 22 (M S.hp S.nx) r0 (fun r1 _ => XvLen P 22 r1 (fun r2 _ => XvMake P 22 (M S.hp S.nx) r2 r2 (fun r3 ef3 => K ⟨[(1, S.get 1), (3, S.get 3), (4, S.get 4), (5, r3)], (Eff.hp ef3 S.nx S.hp), (S.nx + ef3.add.length), S.gh⟩))))) fun K hK => ?_
  repeat' (first | (refine hK _ ?_; clear hK K) | ((first | refine xG_intro (fun hg => ?_) (fun hg => ?_) | refine fun (hg : (_ : Prop)) => ?_) <;> ((try simp only [BQ] at hg); try (exfalso; omega))) | refine And.intro ?_ ?_ | exact cl | exact one_encP _ | exact flat_encI _ | refine one_take ?_ _ | refine one_drop ?_ _ | (refine st ?_; try simp only [encC, pairs]) | simp only [encC, pairs])
  rw [zeros_I]
  all_goals
  refine Tri.seq ?_
  refine sZ [1, 3, 4, 5, 24, 25] (fun P S K => XvLen P 22 (S.get 5) (fun r1 _ => K ⟨[(1, S.get 1), (3, S.get 3), (4, S.get 4), (5, S.get 5), (24, r1), (25, (.atom (.int .i64 0)))], S.hp, S.nx, S.gh⟩)) fun K hK => ?_
  repeat' (first | (refine hK _ ?_; clear hK K) | refine And.intro ?_ ?_ | exact cl | exact one_encP _ | exact flat_encI _ | (refine st ?_; try simp only [encC, pairs]) | simp only [encC, pairs])
  all_goals
  refine Tri.block ?_
  refine Tri.loop (α := (i : Nat) ×' (i ≤ c.sizes.length)) (fun z => (fun (i : Nat) => (⟨[(1, .ptr 0 3 0 0), (3, nats (opens c)), (4, .ptr 2 1 0 0), (5, .ob 3 1 0 c.sizes.length), (24, encI c.sizes.length), (25, encI i)], [(0, some ⟨3, [encC c]⟩), (1, some ⟨1, (List.replicate c.people.toNat (0 : Int)).map encI⟩), (2, some ⟨1, [.ob 1 1 0 c.people.toNat]⟩), (3, some ⟨1, (nI (List.range i) ++ List.replicate (c.sizes.length - i) 0).map encI⟩)], 4, []⟩ : St)) z.1) (fun z => (fun (i : Nat) => c.sizes.length - i) z.1) ⟨0, Nat.zero_le _⟩ [0, 1, 2, 3] ?_ ?_
  ·exact leqB21
  ·rintro ⟨i, hi⟩
   refine sZ [1, 3, 4, 5, 24, 25, 26] (fun P S K => XvBinOV P .lss 3 (.tmp 24) (S.get 25) (S.get 24) (fun r0 _ => K ⟨[(1, S.get 1), (3, S.get 3), (4, S.get 4), (5, S.get 5), (24, S.get 24), (25, S.get 25), (26, r0)], S.hp, S.nx, S.gh⟩)) fun K hK => ?_
   repeat' (first | (refine hK _ ?_; clear hK K) | refine And.intro ?_ ?_ | exact cl | exact one_encP _ | exact flat_encI _ | (refine st ?_; try simp only [encC, pairs]) | simp only [encC, pairs])
   all_goals
   refine Tri.seq ?_
   refine Tri.cond rfl (fun h26 => ?_) (fun h26 => ?_)
   ·try (cases h26; done)
    all_goals (try simp only [CQ] at h26)
    all_goals
    refine Tri.skip ?_
    refine Tri.seq ?_
    refine Tri.block ?_
    have hil : i < c.sizes.length := by omega
    have hnl : (nI (List.range i)).length = i := by simp [nI]
    refine sZ [1, 3, 4, 5, 6, 24, 25] (fun P S K => K ⟨[(1, S.get 1), (3, S.get 3), (4, S.get 4), (5, S.get 5), (6, (S.get 25)), (24, S.get 24), (25, S.get 25)], S.hp, S.nx, S.gh⟩) fun K hK => ?_
    repeat' (first | (refine hK _ ?_; clear hK K) | refine And.intro ?_ ?_ | exact cl | exact one_encP _ | exact flat_encI _ | (refine st ?_; try simp only [encC, pairs]) | simp only [encC, pairs])
    all_goals
    refine rZ [1, 3, 4, 5, 24, 25] (fun P S K => XvIndexAddr P 22 (S.get 5) (S.get 6) (fun r3 _ => XvStore P 3 (M S.hp S.nx) r3 (S.get 6) (fun r4 ef4 => K ⟨[(1, S.get 1), (3, S.get 3), (4, S.get 4), (5, S.get 5), (24, S.get 24), (25, S.get 25)], (Eff.hp ef4 S.nx S.hp), (S.nx + ef4.add.length), S.gh⟩))) fun K hK => ?_
    repeat' (first | (refine hK _ ?_; clear hK K) | refine And.intro ?_ ?_ | exact cl | exact one_encP _ | exact flat_encI _ | (refine st ?_; try simp only [encC, pairs, getD_encI (show i < (nI (List.range i) ++ List.replicate (c.sizes.length - i) 0).length by rw [fillI_len hi]; exact hil)]) | simp only [encC, pairs, getD_encI (show i < (nI (List.range i) ++ List.replicate (c.sizes.length - i) 0).length by rw [fillI_len hi]; exact hil)])
    rw [set_encI, fillI_set hil]
    all_goals
    refine rZ [1, 3, 4, 5, 24, 25] (fun P S K => XvBinOV P .add 3 (.const (.int .i64 1)) (S.get 25) (.atom (.int .i64 1)) (fun r0 _ => K ⟨[(1, S.get 1), (3, S.get 3), (4, S.get 4), (5, S.get 5), (24, S.get 24), (25, r0)], S.hp, S.nx, S.gh⟩)) fun K hK => ?_
    repeat' (first | (refine hK _ ?_; clear hK K) | refine And.intro ?_ ?_ | exact cl | exact one_encP _ | exact flat_encI _ | (refine st ?_; try simp only [encC, pairs]) | simp only [encC, pairs])
    all_goals try simp (disch := omega) only [wrap_id, wrap8_id]
    all_goals
    refine ⟨⟨i + 1, by omega⟩, [0, 1, 2, 3], by dsimp only; omega, ?_⟩
    exact leqB21
   ·try (cases h26; done)
    all_goals (try simp only [CQ] at h26)
    all_goals
    refine Tri.exit ?_
    obtain rfl : i = c.sizes.length := by omega
    rw [Nat.sub_self, List.replicate_zero, List.append_nil]
    refine sZ [1, 3, 4, 5] (fun P S K => XvMakeFV (.func 68) [] [(S.get 1)] (fun r1 _ => XvFnIV P (M S.hp S.nx) (.fn 67 []) [(S.get 5), r1] (fun r2 ef2 => K ⟨[(1, S.get 1), (3, S.get 3), (4, S.get 4), (5, S.get 5)], (Eff.hp ef2 S.nx S.hp), (S.nx + ef2.add.length), S.gh⟩))) fun K hK => ?_
    repeat' (first | (refine hK _ ?_; clear hK K) | ((first | refine xG_intro (fun hg => ?_) (fun hg => ?_) | refine fun (hg : (_ : Prop)) => ?_) <;> ((try simp only [BQ] at hg); try (exfalso; omega))) | refine And.intro ?_ ?_ | exact cl | exact one_encP _ | exact flat_encI _ | refine one_take ?_ _ | refine one_drop ?_ _ | refine .inr (vProc.row 3 1 hs rfl (pureL_encI _) (pureL_encI _) rfl (by simp [sealed, PV.ren, renL, rmap, St.obj, lk, encC, pairs, ints, encI, renL_encP, map_sealed_encP, map_sealed_encI, renL_encI]) rfl (flat_encI _) ?_) | refine .inr (vProc.row 4 1 hs2 rfl (pureL_encI _) (pureL_encI _) rfl (by simp [-List.map_map, sealed, PV.ren, renL, rmap, St.obj, lk, ints, map_sealed_encI, renL_encI, hql, List.take_of_length_le]) rfl (flat_encI _) ?_) | (refine st ?_; try simp only [encC, pairs]) | simp only [encC, pairs])
    all_goals
    refine sZ [1, 3, 4, 5, 7] (fun P S K => XvFieldAddr P 38 0 (S.get 1) (fun r0 _ => XvLoad P 22 (M S.hp S.nx) r0 (fun r1 _ => XvLen P 22 r1 (fun r2 _ => XvMake P 23 (M S.hp S.nx) r2 r2 (fun r3 ef3 => K ⟨[(1, S.get 1), (3, S.get 3), (4, S.get 4), (5, S.get 5), (7, r3)], (Eff.hp ef3 S.nx S.hp), (S.nx + ef3.add.length), S.gh⟩))))) fun K hK => ?_
    repeat' (first | (refine hK _ ?_; clear hK K) | ((first | refine xG_intro (fun hg => ?_) (fun hg => ?_) | refine fun (hg : (_ : Prop)) => ?_) <;> ((try simp only [BQ] at hg); try (exfalso; omega))) | refine And.intro ?_ ?_ | exact cl | exact one_encP _ | exact flat_encI _ | refine one_take ?_ _ | refine one_drop ?_ _ | (refine st ?_; try simp only [encC, pairs]) | simp only [encC, pairs])
    rw [zeros_P]
    all_goals
    refine Tri.seq ?_
    refine sZ [1, 3, 4, 7, 40, 41, 42] (fun P S K => XvLen P 22 (S.get 5) (fun r1 _ => K ⟨[(1, S.get 1), (3, S.get 3), (4, S.get 4), (7, S.get 7), (40, (S.get 5)), (41, r1), (42, (.atom (.int .i64 0)))], S.hp, S.nx, S.gh⟩)) fun K hK => ?_
    repeat' (first | (refine hK _ ?_; clear hK K) | refine And.intro ?_ ?_ | exact cl | exact one_encP _ | exact flat_encI _ | (refine st ?_; try simp only [encC, pairs]) | simp only [encC, pairs])
    all_goals
    refine Tri.block ?_
    refine Tri.loop (α := (k : Nat) ×' (k ≤ c.sizes.length)) (fun z => (fun (k : Nat) => (⟨[(1, .ptr 0 3 0 0), (3, nats (opens c)), (4, .ptr 2 1 0 0), (7, .ob 3 2 0 c.sizes.length), (40, ints (ordL c)), (41, encI c.sizes.length), (42, encI k)], [(0, some ⟨3, [encC c]⟩), (1, some ⟨1, (quickA c k).2.map encI⟩), (2, some ⟨1, [.ob 1 1 0 c.people.toNat]⟩), (3, some ⟨2, (quickA c k).1.map encP⟩)], 4, []⟩ : St)) z.1) (fun z => (fun (k : Nat) => c.sizes.length - k) z.1) ⟨0, Nat.zero_le _⟩ [0, 1, 2, 4] ?_ ?_
    ·rw [show PV.ob 3 1 0 c.sizes.length = PV.ob 3 1 0 (ordL c).length by rw [o2]]
     exact leqB21
    ·rintro ⟨k, hk⟩
     have hS := sameQ hG k hk
     have hI := quickI hG k hk
     have hol : (quickA c k).1.length = c.sizes.length := by rw [hS.out]; exact hI.out
     have hll : (quickA c k).2.length = c.people.toNat := by rw [hS.loads]; exact hI.loads
     have hlr : ∀ x, x ∈ (quickA c k).2 → 0 ≤ x ∧ x ≤ 2048 * (k : Int) := by rw [hS.loads]; exact hI.rng
     refine sZ [1, 3, 4, 7, 40, 41, 42, 43] (fun P S K => XvBinOV P .lss 3 (.tmp 41) (S.get 42) (S.get 41) (fun r0 _ => K ⟨[(1, S.get 1), (3, S.get 3), (4, S.get 4), (7, S.get 7), (40, S.get 40), (41, S.get 41), (42, S.get 42), (43, r0)], S.hp, S.nx, S.gh⟩)) fun K hK => ?_
     repeat' (first | (refine hK _ ?_; clear hK K) | refine And.intro ?_ ?_ | exact cl | exact one_encP _ | exact flat_encI _ | (refine st ?_; try simp only [encC, pairs]) | simp only [encC, pairs])
     all_goals
     refine Tri.seq ?_
     refine Tri.cond rfl (fun h43 => ?_) (fun h43 => ?_)
     ·try (cases h43; done)
      all_goals (try simp only [CQ] at h43)
      all_goals
      refine Tri.skip ?_
      refine Tri.seq ?_
      refine Tri.block ?_
      have hko : k < (ordL c).length := by omega
      obtain ⟨hi0, hi1⟩ := (o3 _).1 (li_mem hko)
      have hqs := quickA_succ (c := c) hko
      refine sZ [1, 3, 4, 7, 9, 40, 41, 42] (fun P S K => XvIndexAddr P 22 (S.get 40) (S.get 42) (fun r0 _ => XvLoad P 3 (M S.hp S.nx) r0 (fun r1 _ => K ⟨[(1, S.get 1), (3, S.get 3), (4, S.get 4), (7, S.get 7), (9, r1), (40, S.get 40), (41, S.get 41), (42, S.get 42)], S.hp, S.nx, S.gh⟩))) fun K hK => ?_
      repeat' (first | (refine hK _ ?_; clear hK K) | refine And.intro ?_ ?_ | exact cl | exact one_encP _ | exact flat_encI _ | refine one_take ?_ _ | refine one_drop ?_ _ | (refine st ?_; try simp only [encC, pairs, getD_encI hko]) | simp only [encC, pairs, getD_encI hko])
      generalize hie : li (ordL c) k = i at hi0 hi1 hqs ⊢
      obtain ⟨j, rfl⟩ : ∃ j : Nat, i = j := ⟨i.toNat, by omega⟩
      have hj : j < c.sizes.length := by omega
      have hog := opens_get hj
      have hjo : j < (opens c).length := by rw [opens_len]; exact hj
      all_goals
      refine sZ [1, 3, 4, 7, 9, 10, 40, 41, 42] (fun P S K => K ⟨[(1, S.get 1), (3, S.get 3), (4, S.get 4), (7, S.get 7), (9, S.get 9), (10, (.atom (.slice none 0 0))), (40, S.get 40), (41, S.get 41), (42, S.get 42)], S.hp, S.nx, S.gh⟩) fun K hK => ?_
      repeat' (first | (refine hK _ ?_; clear hK K) | refine And.intro ?_ ?_ | exact cl | exact one_encP _ | exact flat_encI _ | (refine st ?_; try simp only [encC, pairs]) | simp only [encC, pairs])
      refine Tri.born 10 1 rfl ?_
      all_goals
      refine Tri.seq ?_
      refine sZ [1, 3, 4, 7, 9, 10, 40, 41, 42, 47, 48] (fun P S K => XvFieldAddr P 38 1 (S.get 1) (fun r0 _ => XvLoad P 3 (M S.hp S.nx) r0 (fun r1 _ => K ⟨[(1, S.get 1), (3, S.get 3), (4, S.get 4), (7, S.get 7), (9, S.get 9), (10, S.get 10), (40, S.get 40), (41, S.get 41), (42, S.get 42), (47, r1), (48, (.atom (.int .i64 0)))], S.hp, S.nx, S.gh⟩))) fun K hK => ?_
      repeat' (first | (refine hK _ ?_; clear hK K) | refine And.intro ?_ ?_ | exact cl | exact one_encP _ | exact flat_encI _ | refine one_take ?_ _ | refine one_drop ?_ _ | (refine st ?_; try simp only [encC, pairs]) | simp only [encC, pairs])
      all_goals
      refine Tri.block ?_
      refine Tri.loop (α := (xs : List Int) ×' (p : Nat) ×' ((p : Int) ≤ c.people ∧ xs = openL c j p)) (fun z => (fun (xs : List Int) (p : Nat) => (⟨[(1, .ptr 0 3 0 0), (3, nats (opens c)), (4, .ptr 2 1 0 0), (7, .ob 3 2 0 c.sizes.length), (9, encI j), (10, .ob 4 1 0 xs.length), (40, ints (ordL c)), (41, encI c.sizes.length), (42, encI k), (47, encI c.people), (48, encI p)], [(0, some ⟨3, [encC c]⟩), (1, some ⟨1, (quickA c k).2.map encI⟩), (2, some ⟨1, [.ob 1 1 0 c.people.toNat]⟩), (3, some ⟨2, (quickA c k).1.map encP⟩), (4, some ⟨1, xs.map encI⟩)], 5, []⟩ : St)) z.1 z.2.1) (fun z => (fun (xs : List Int) (p : Nat) => 6 - p) z.1 z.2.1) ⟨[], 0, ⟨by omega, rfl⟩⟩ [0, 1, 2, 3, 4] ?_ ?_
      ·exact leqB21
      ·rintro ⟨xs, p, ⟨hp, hxs⟩⟩
       refine sZ [1, 3, 4, 7, 9, 10, 40, 41, 42, 47, 48, 49] (fun P S K => XvBinOV P .lss 3 (.tmp 47) (S.get 48) (S.get 47) (fun r0 _ => K ⟨[(1, S.get 1), (3, S.get 3), (4, S.get 4), (7, S.get 7), (9, S.get 9), (10, S.get 10), (40, S.get 40), (41, S.get 41), (42, S.get 42), (47, S.get 47), (48, S.get 48), (49, r0)], S.hp, S.nx, S.gh⟩)) fun K hK => ?_
       repeat' (first | (refine hK _ ?_; clear hK K) | refine And.intro ?_ ?_ | exact cl | exact one_encP _ | exact flat_encI _ | (refine st ?_; try simp only [encC, pairs]) | simp only [encC, pairs])
       all_goals
       refine Tri.seq ?_
       refine Tri.cond rfl (fun h49 => ?_) (fun h49 => ?_)
       ·try (cases h49; done)
        all_goals (try simp only [CQ] at h49)
        all_goals
        refine Tri.skip ?_
        refine Tri.seq ?_
        refine Tri.block ?_
        have hpl : (p : Int) < c.people := by omega
        have hb1 := bit_open1 c j hpl hhi
        have hxl : xs.length ≤ 6 := by rw [hxs]; exact openL_six c j (by omega)
        have hst : openL c j (p + 1) = xs ++ if openB c j p then [(p : Int)] else [] := by rw [hxs]; rfl
        refine sZ [1, 3, 4, 7, 9, 10, 11, 40, 41, 42, 47, 48] (fun P S K => K ⟨[(1, S.get 1), (3, S.get 3), (4, S.get 4), (7, S.get 7), (9, S.get 9), (10, S.get 10), (11, (S.get 48)), (40, S.get 40), (41, S.get 41), (42, S.get 42), (47, S.get 47), (48, S.get 48)], S.hp, S.nx, S.gh⟩) fun K hK => ?_
        repeat' (first | (refine hK _ ?_; clear hK K) | refine And.intro ?_ ?_ | exact cl | exact one_encP _ | exact flat_encI _ | (refine st ?_; try simp only [encC, pairs]) | simp only [encC, pairs])
        all_goals
        refine sZ [1, 3, 4, 7, 9, 10, 11, 40, 41, 42, 47, 48, 58] (fun P S K => XvIndexAddr P 82 (S.get 3) (S.get 9) (fun r2 _ => XvLoad P 83 (M S.hp S.nx) r2 (fun r3 _ => XvBinOV P .shr 83 (.tmp 55) r3 (S.get 11) (fun r5 _ => XvBinOV P .and 83 (.const (.int .u64 1)) r5 (.atom (.int .u64 1)) (fun r6 _ => XvBinOV P .eql 83 (.const (.int .u64 1)) r6 (.atom (.int .u64 1)) (fun r7 _ => K ⟨[(1, S.get 1), (3, S.get 3), (4, S.get 4), (7, S.get 7), (9, S.get 9), (10, S.get 10), (11, S.get 11), (40, S.get 40), (41, S.get 41), (42, S.get 42), (47, S.get 47), (48, S.get 48), (58, r7)], S.hp, S.nx, S.gh⟩)))))) fun K hK => ?_
        repeat' (first | (refine hK _ ?_; clear hK K) | ((first | refine xG_intro (fun hg => ?_) (fun hg => ?_) | refine fun (hg : (_ : Prop)) => ?_) <;> ((try simp only [BQ] at hg); try (exfalso; omega))) | refine And.intro ?_ ?_ | exact cl | exact one_encP _ | exact flat_encI _ | refine one_take ?_ _ | refine one_drop ?_ _ | (refine st ?_; try simp only [encC, pairs, nats, getD_encN hjo, hog, encN, hb1]) | simp only [encC, pairs, nats, getD_encN hjo, hog, encN, hb1])
        all_goals try simp (disch := omega) only [wrap_id, wrap8_id]
        all_goals
        refine Tri.cond rfl (fun h58 => ?_) (fun h58 => ?_)
        ·try (cases h58; done)
         all_goals (try simp only [CQ] at h58)
         all_goals
         refine rZ [1, 3, 4, 7, 9, 10, 40, 41, 42, 47, 48] (fun P S K => XvBuildS P 22 1 S.nx [(0, (S.get 11))] (fun r2 ef2 => (22 = 22 ∧ XvAppend P 22 (M (Eff.hp ef2 S.nx S.hp) (S.nx + ef2.add.length)) (S.get 10) r2 (fun r3 ef3 => K ⟨[(1, S.get 1), (3, S.get 3), (4, S.get 4), (7, S.get 7), (9, S.get 9), (10, r3), (40, S.get 40), (41, S.get 41), (42, S.get 42), (47, S.get 47), (48, S.get 48)], (Eff.hp ef3 (S.nx + ef2.add.length) (Eff.hp ef2 S.nx S.hp)), ((S.nx + ef2.add.length) + ef3.add.length), S.gh⟩)))) fun K hK => ?_
         repeat' (first | (refine hK _ ?_; clear hK K) | ((first | refine xG_intro (fun hg => ?_) (fun hg => ?_) | refine fun (hg : (_ : Prop)) => ?_) <;> ((try simp only [BQ] at hg); try (exfalso; omega))) | refine And.intro ?_ ?_ | exact cl | exact one_encP _ | exact flat_encI _ | refine one_take ?_ _ | refine one_drop ?_ _ | (refine st ?_; try simp only [encC, pairs]) | simp only [encC, pairs])
         all_goals
         refine rZ [1, 3, 4, 7, 9, 10, 40, 41, 42, 47, 48] (fun P S K => XvBinOV P .add 3 (.const (.int .i64 1)) (S.get 48) (.atom (.int .i64 1)) (fun r0 _ => K ⟨[(1, S.get 1), (3, S.get 3), (4, S.get 4), (7, S.get 7), (9, S.get 9), (10, S.get 10), (40, S.get 40), (41, S.get 41), (42, S.get 42), (47, S.get 47), (48, r0)], S.hp, S.nx, S.gh⟩)) fun K hK => ?_
         repeat' (first | (refine hK _ ?_; clear hK K) | refine And.intro ?_ ?_ | exact cl | exact one_encP _ | exact flat_encI _ | (refine st ?_; try simp only [encC, pairs]) | simp only [encC, pairs])
         all_goals try simp (disch := omega) only [wrap_id, wrap8_id]
         all_goals
         first
         | (refine ⟨⟨xs ++ [(p : Int)], p + 1, by omega, by rw [hst, if_pos (by assumption)]⟩, [0, 1, 2, 3, 6], by dsimp only; omega, ?_⟩; exact leqB21)
         | (refine ⟨⟨xs, p + 1, by omega, by rw [hst, if_neg (by simp_all), List.append_nil]⟩, [0, 1, 2, 3, 4], by dsimp only; omega, ?_⟩; exact leqB21)
        ·try (cases h58; done)
         all_goals (try simp only [CQ] at h58)
         all_goals
         refine Tri.skip ?_
         refine rZ [1, 3, 4, 7, 9, 10, 40, 41, 42, 47, 48] (fun P S K => XvBinOV P .add 3 (.const (.int .i64 1)) (S.get 48) (.atom (.int .i64 1)) (fun r0 _ => K ⟨[(1, S.get 1), (3, S.get 3), (4, S.get 4), (7, S.get 7), (9, S.get 9), (10, S.get 10), (40, S.get 40), (41, S.get 41), (42, S.get 42), (47, S.get 47), (48, r0)], S.hp, S.nx, S.gh⟩)) fun K hK => ?_
         repeat' (first | (refine hK _ ?_; clear hK K) | refine And.intro ?_ ?_ | exact cl | exact one_encP _ | exact flat_encI _ | (refine st ?_; try simp only [encC, pairs]) | simp only [encC, pairs])
         all_goals try simp (disch := omega) only [wrap_id, wrap8_id]
         all_goals
         first
         | (refine ⟨⟨xs ++ [(p : Int)], p + 1, by omega, by rw [hst, if_pos (by assumption)]⟩, [0, 1, 2, 3, 6], by dsimp only; omega, ?_⟩; exact leqB21)
         | (refine ⟨⟨xs, p + 1, by omega, by rw [hst, if_neg (by simp_all), List.append_nil]⟩, [0, 1, 2, 3, 4], by dsimp only; omega, ?_⟩; exact leqB21)
       ·try (cases h49; done)
        all_goals (try simp only [CQ] at h49)
        all_goals
        refine Tri.exit ?_
        obtain rfl : p = c.people.toNat := by omega
        have hx6 : xs.length ≤ 6 := by rw [hxs]; exact openL_six c j (by omega)
        obtain ⟨f1, f2, f3, f4, f5, f6⟩ := first_two hG (quickA c k).2 hj
        have hxm : ∀ x, x ∈ xs → 0 ≤ x ∧ x < (quickA c k).2.length := fun x hx => by
          rw [hxs] at hx
          have := openL_mem.1 hx
          rw [hll]; omega
        have hs2 := sortStable_proc 70 (.fptr 1 [ints (quickA c k).2] 0 0) (ldC (quickA c k).2) (ldK (quickA c k).2) xs (by simp [PV.pure, pureL, pure_ints]) (by omega) (fun x y hx hy => quick2_pure _ x y (hxm x hx) (hxm y hy)) (ldC_key _) (fun j h20 hj x hx => by omega)
        have hql : (quickA c k).2.length = c.people.toNat := hll
        have hsl : (sortP c (quickA c k).2 j).length = xs.length := by unfold sortP; rw [sortedL_len, hxs]
        rw [show sortedL (ldC (quickA c k).2) xs = sortP c (quickA c k).2 j by unfold sortP; rw [hxs]] at hs2
        generalize hSe : sortP c (quickA c k).2 j = SP at f1 f2 f3 f4 f5 f6 hs2 hsl
        refine sZ [1, 3, 4, 7, 9, 10, 40, 41, 42] (fun P S K => XvMakeFV (.func 70) [] [(S.get 4)] (fun r1 _ => XvFnIV P (M S.hp S.nx) (.fn 67 []) [(S.get 10), r1] (fun r2 ef2 => K ⟨[(1, S.get 1), (3, S.get 3), (4, S.get 4), (7, S.get 7), (9, S.get 9), (10, S.get 10), (40, S.get 40), (41, S.get 41), (42, S.get 42)], (Eff.hp ef2 S.nx S.hp), (S.nx + ef2.add.length), S.gh⟩))) fun K hK => ?_
        repeat' (first | (refine hK _ ?_; clear hK K) | ((first | refine xG_intro (fun hg => ?_) (fun hg => ?_) | refine fun (hg : (_ : Prop)) => ?_) <;> ((try simp only [BQ] at hg); try (exfalso; omega))) | refine And.intro ?_ ?_ | exact cl | exact one_encP _ | exact flat_encI _ | refine one_take ?_ _ | refine one_drop ?_ _ | refine .inr (vProc.row 3 1 hs rfl (pureL_encI _) (pureL_encI _) rfl (by simp [sealed, PV.ren, renL, rmap, St.obj, lk, encC, pairs, ints, encI, renL_encP, map_sealed_encP, map_sealed_encI, renL_encI]) rfl (flat_encI _) ?_) | refine .inr (vProc.row 4 1 hs2 rfl (pureL_encI _) (pureL_encI _) rfl (by simp [-List.map_map, sealed, PV.ren, renL, rmap, St.obj, lk, ints, map_sealed_encI, renL_encI, hql, List.take_of_length_le]) rfl (flat_encI _) ?_) | (refine st ?_; try simp only [encC, pairs]) | simp only [encC, pairs])
        all_goals
        refine sD 8 [1, 3, 4, 7, 9, 12, 13, 40, 41, 42] (fun P GD S K => XvIndexAddr P 22 (S.get 10) (.atom (.int .i64 0)) (fun r1 ef1 => XvLoad P 3 (M S.hp S.nx) r1 (fun r2 ef2 => XvIndexAddr P 22 (S.get 10) (.atom (.int .i64 1)) (fun r4 ef4 => XvLoad P 3 (M S.hp S.nx) r4 (fun r5 ef5 => (trOk S.nx GD [⟨S.nx, 0, [], [], []⟩, ⟨S.nx, 0, ef1.rd, [], []⟩, ⟨S.nx, 0, ef2.rd, [], []⟩, ⟨S.nx, 0, [], [], []⟩, ⟨S.nx, 0, ef4.rd, [], []⟩, ⟨S.nx, 0, ef5.rd, [], []⟩, ⟨S.nx, 0, [], [], []⟩, ⟨S.nx, 0, [], [], []⟩] = true ∧ K ⟨[(1, S.get 1), (3, S.get 3), (4, S.get 4), (7, S.get 7), (9, S.get 9), (12, r2), (13, r5), (40, S.get 40), (41, S.get 41), (42, S.get 42)], S.hp, S.nx, S.gh⟩)))))) fun K hK => ?_
        repeat' (first | (refine hK _ ?_; clear hK K) | (refine (?_ : trOk _ _ _ = true); kernel_rfl) | refine And.intro ?_ ?_ | exact cl | exact one_encP _ | exact flat_encI _ | refine one_take ?_ _ | refine one_drop ?_ _ | (refine st ?_; try simp only [encC, pairs, getD_encI (show 0 < SP.length by omega), getD_encI (show 1 < SP.length by omega)]) | simp only [encC, pairs, getD_encI (show 0 < SP.length by omega), getD_encI (show 1 < SP.length by omega)])
        generalize hae : li SP 0 = A at f1 f2 f3 f4 ⊢
        generalize hbe : li SP 1 = B at f2 f3 f4 ⊢
        have hA := f4 A (.inl rfl)
        have hB := f4 B (.inr rfl)
        have hra := li_rng hlr (by omega) A.toNat
        have hsz := li_rng (m := 0) (M := 1024) (fun x hx => by have := hG.size x hx; omega) (by omega) j
        all_goals
        refine sD 11 [1, 3, 4, 7, 9, 12, 13, 40, 41, 42] (fun P GD S K => XvLoad P 22 (M S.hp S.nx) (S.get 4) (fun r0 ef0 => XvIndexAddr P 22 r0 (S.get 12) (fun r2 ef2 => XvLoad P 3 (M S.hp S.nx) r2 (fun r3 ef3 => XvFieldAddr P 38 0 (S.get 1) (fun r4 ef4 => XvLoad P 22 (M S.hp S.nx) r4 (fun r5 ef5 => XvIndexAddr P 22 r5 (S.get 9) (fun r7 ef7 => XvLoad P 3 (M S.hp S.nx) r7 (fun r8 ef8 => XvBinOV P .add 3 (.tmp 81) r3 r8 (fun r9 ef9 => XvIndexAddr P 22 r0 (S.get 12) (fun r10 ef10 => (trOk S.nx GD [⟨S.nx, 0, ef0.rd, [], []⟩, ⟨S.nx, 0, [], [], []⟩, ⟨S.nx, 0, ef2.rd, [], []⟩, ⟨S.nx, 0, ef3.rd, [], []⟩, ⟨S.nx, 0, ef4.rd, [], []⟩, ⟨S.nx, 0, ef5.rd, [], []⟩, ⟨S.nx, 0, [], [], []⟩, ⟨S.nx, 0, ef7.rd, [], []⟩, ⟨S.nx, 0, ef8.rd, [], []⟩, ⟨S.nx, 0, ef9.rd, [], []⟩, ⟨S.nx, 0, ef10.rd, [], []⟩] = true ∧ XvStore P 3 (M S.hp S.nx) r10 r9 (fun r11 ef11 => K ⟨[(1, S.get 1), (3, S.get 3), (4, S.get 4), (7, S.get 7), (9, S.get 9), (12, S.get 12), (13, S.get 13), (40, S.get 40), (41, S.get 41), (42, S.get 42)], (Eff.hp ef11 S.nx S.hp), (S.nx + ef11.add.length), S.gh⟩)))))))))))) fun K hK => ?_
        repeat' (first | (refine hK _ ?_; clear hK K) | (refine (?_ : trOk _ _ _ = true); kernel_rfl) | refine And.intro ?_ ?_ | exact cl | exact one_encP _ | exact flat_encI _ | refine one_take ?_ _ | refine one_drop ?_ _ | (refine st ?_; try simp only [encC, pairs, getD_encI hj, getD_encI (show A.toNat < (quickA c k).2.length by omega), wrap_id (x := li (quickA c k).2 A.toNat + li c.sizes j) (by omega) (by omega), hll]) | simp only [encC, pairs, getD_encI hj, getD_encI (show A.toNat < (quickA c k).2.length by omega), wrap_id (x := li (quickA c k).2 A.toNat + li c.sizes j) (by omega) (by omega), hll])
        all_goals try simp (disch := omega) only [wrap_id, wrap8_id]
        rw [addAt_enc]
        have hlg2 : (addAt (quickA c k).2 A (li c.sizes j)).length = c.people.toNat := by rw [addAt_len, hll]
        have hrb := li_rng (addAt_rng (k := A) (v := li c.sizes j) (m := 2048 * (k : Int)) (M := 2048 * (k : Int) + 1024) hlr (by omega) (by omega)) (by omega) B.toNat
        all_goals
        refine sD 11 [1, 3, 4, 7, 9, 12, 13, 40, 41, 42] (fun P GD S K => XvLoad P 22 (M S.hp S.nx) (S.get 4) (fun r0 ef0 => XvIndexAddr P 22 r0 (S.get 13) (fun r2 ef2 => XvLoad P 3 (M S.hp S.nx) r2 (fun r3 ef3 => XvFieldAddr P 38 0 (S.get 1) (fun r4 ef4 => XvLoad P 22 (M S.hp S.nx) r4 (fun r5 ef5 => XvIndexAddr P 22 r5 (S.get 9) (fun r7 ef7 => XvLoad P 3 (M S.hp S.nx) r7 (fun r8 ef8 => XvBinOV P .add 3 (.tmp 92) r3 r8 (fun r9 ef9 => XvIndexAddr P 22 r0 (S.get 13) (fun r10 ef10 => (trOk S.nx GD [⟨S.nx, 0, ef0.rd, [], []⟩, ⟨S.nx, 0, [], [], []⟩, ⟨S.nx, 0, ef2.rd, [], []⟩, ⟨S.nx, 0, ef3.rd, [], []⟩, ⟨S.nx, 0, ef4.rd, [], []⟩, ⟨S.nx, 0, ef5.rd, [], []⟩, ⟨S.nx, 0, [], [], []⟩, ⟨S.nx, 0, ef7.rd, [], []⟩, ⟨S.nx, 0, ef8.rd, [], []⟩, ⟨S.nx, 0, ef9.rd, [], []⟩, ⟨S.nx, 0, ef10.rd, [], []⟩] = true ∧ XvStore P 3 (M S.hp S.nx) r10 r9 (fun r11 ef11 => K ⟨[(1, S.get 1), (3, S.get 3), (4, S.get 4), (7, S.get 7), (9, S.get 9), (12, S.get 12), (13, S.get 13), (40, S.get 40), (41, S.get 41), (42, S.get 42)], (Eff.hp ef11 S.nx S.hp), (S.nx + ef11.add.length), S.gh⟩)))))))))))) fun K hK => ?_
        repeat' (first | (refine hK _ ?_; clear hK K) | (refine (?_ : trOk _ _ _ = true); kernel_rfl) | refine And.intro ?_ ?_ | exact cl | exact one_encP _ | exact flat_encI _ | refine one_take ?_ _ | refine one_drop ?_ _ | (refine st ?_; try simp only [encC, pairs, getD_encI hj, getD_encI (show B.toNat < (addAt (quickA c k).2 A (li c.sizes j)).length by omega), wrap_id (x := li (addAt (quickA c k).2 A (li c.sizes j)) B.toNat + li c.sizes j) (by omega) (by omega), hlg2]) | simp only [encC, pairs, getD_encI hj, getD_encI (show B.toNat < (addAt (quickA c k).2 A (li c.sizes j)).length by omega), wrap_id (x := li (addAt (quickA c k).2 A (li c.sizes j)) B.toNat + li c.sizes j) (by omega) (by omega), hlg2])
        all_goals try simp (disch := omega) only [wrap_id, wrap8_id]
        rw [addAt_enc]
        all_goals
        refine rZ [1, 3, 4, 7, 40, 41, 42] (fun P S K => XvMinMax false (S.get 12) (S.get 13) (fun r4 _ => XvMinMax true (S.get 12) (S.get 13) (fun r7 _ => XvBuild P 67 [(0, r4), (1, r7)] (fun r8 _ => XvIndexAddr P 23 (S.get 7) (S.get 9) (fun r9 _ => XvStore P 67 (M S.hp S.nx) r9 r8 (fun r10 ef10 => K ⟨[(1, S.get 1), (3, S.get 3), (4, S.get 4), (7, S.get 7), (40, S.get 40), (41, S.get 41), (42, S.get 42)], (Eff.hp ef10 S.nx S.hp), (S.nx + ef10.add.length), S.gh⟩)))))) fun K hK => ?_
        repeat' (first | (refine hK _ ?_; clear hK K) | ((first | refine xG_intro (fun hg => ?_) (fun hg => ?_) | refine fun (hg : (_ : Prop)) => ?_) <;> ((try simp only [BQ] at hg); try (exfalso; omega))) | refine And.intro ?_ ?_ | exact cl | exact one_encP _ | exact flat_encI _ | refine one_take ?_ _ | refine one_drop ?_ _ | (refine st ?_; try simp only [encC, pairs, getD_encP (show j < (quickA c k).1.length by omega), encP, hol]) | simp only [encC, pairs, getD_encP (show j < (quickA c k).1.length by omega), encP, hol])
        rw [set_encP]
        all_goals
        refine rZ [1, 3, 4, 7, 40, 41, 42] (fun P S K => XvBinOV P .add 3 (.const (.int .i64 1)) (S.get 42) (.atom (.int .i64 1)) (fun r0 _ => K ⟨[(1, S.get 1), (3, S.get 3), (4, S.get 4), (7, S.get 7), (40, S.get 40), (41, S.get 41), (42, r0)], S.hp, S.nx, S.gh⟩)) fun K hK => ?_
        repeat' (first | (refine hK _ ?_; clear hK K) | refine And.intro ?_ ?_ | exact cl | exact one_encP _ | exact flat_encI _ | (refine st ?_; try simp only [encC, pairs]) | simp only [encC, pairs])
        all_goals try simp (disch := omega) only [wrap_id, wrap8_id]
        all_goals
        refine ⟨⟨k + 1, by omega⟩, [0, 1, 2, 3], by dsimp only; omega, ?_⟩
        dsimp only
        rw [hqs]
        unfold stepA
        rw [hSe, hae, hbe]
        simp only [Int.toNat_natCast]
        exact leqB21
     ·try (cases h43; done)
      all_goals (try simp only [CQ] at h43)
      all_goals
      refine Tri.exit ?_
      obtain rfl : k = c.sizes.length := by omega
      refine sZ [2] (fun P S K => K ⟨[(2, (S.get 7))], S.hp, S.nx, S.gh⟩) fun K hK => ?_
      repeat' (first | (refine hK _ ?_; clear hK K) | refine And.intro ?_ ?_ | exact cl | exact one_encP _ | exact flat_encI _ | (refine st ?_; try simp only [encC, pairs]) | simp only [encC, pairs])
      all_goals
      refine Tri.ret ?_
      show ResOk _ _ _ _
      rw [quick_same hG] at hol ⊢
      rw [← hol]
      exact ResOk.frz 5 lstB23 lpvB20
abbrev ExG := List (Int × Int) × ExS
def exGStep (f : List (Int × Int) → List Int → ExS → ExG) (c : CaseD) (i : Nat) (loads : List Int) (s : ExG) (p : Int × Int) : ExG :=
  if s.2.2 ≤ li loads p.1.toNat + li c.sizes i ∨ s.2.2 ≤ li loads p.2.toNat + li c.sizes i then s else f (s.1.set i p) (loadStep c loads i p) s.2
def exG (c : CaseD) : Nat → List (Int × Int) → List Int → ExS → ExG
  | 0, now, loads, st => (now, if greatest loads < st.2 then (now, greatest loads) else st)
  | k + 1, now, loads, st => (pairsOf c (c.sizes.length - (k + 1) : Nat)).foldl (exGStep (exG c k) c (c.sizes.length - (k + 1)) loads) (now, st)
theorem take_set_self {α : Type} {l : List α} {i : Nat} (h : i < l.length) (x : α) : (l.set i x).take (i + 1) = l.take i ++ [x] := by
  rw [List.take_succ_eq_append_getElem (by simpa using h), List.getElem_set_self, List.take_set_of_le (Nat.le_refl i)]
theorem exG_exF {c : CaseD} : ∀ (k : Nat) (now : List (Int × Int)) (loads : List Int) (st : ExS), k ≤ c.sizes.length → now.length = c.sizes.length →
    (exG c k now loads st).1.length = c.sizes.length ∧ (exG c k now loads st).1.take (c.sizes.length - k) = now.take (c.sizes.length - k) ∧ (exG c k now loads st).2 = exF c k (now.take (c.sizes.length - k)) loads st
  | 0, now, loads, st, _, hn => by
    refine ⟨hn, rfl, ?_⟩
    show (if greatest loads < st.2 then (now, greatest loads) else st) = if greatest loads < st.2 then (now.take (c.sizes.length - 0), greatest loads) else st
    rw [Nat.sub_zero, ← hn, List.take_length]
  | k + 1, now, loads, st, hk, hn => by
    have e1 : c.sizes.length - (k + 1) + 1 = c.sizes.length - k := by omega
    have hall : ∀ (l : List (Int × Int)) (s : ExG), s.1.length = c.sizes.length → s.1.take (c.sizes.length - (k + 1)) = now.take (c.sizes.length - (k + 1)) →
        (l.foldl (exGStep (exG c k) c (c.sizes.length - (k + 1)) loads) s).1.length = c.sizes.length ∧ (l.foldl (exGStep (exG c k) c (c.sizes.length - (k + 1)) loads) s).1.take (c.sizes.length - (k + 1)) = now.take (c.sizes.length - (k + 1)) ∧
        (l.foldl (exGStep (exG c k) c (c.sizes.length - (k + 1)) loads) s).2 = l.foldl (exStep (exF c k) c (c.sizes.length - (k + 1)) (now.take (c.sizes.length - (k + 1))) loads) s.2 := by
      intro l
      induction l with
      | nil => intro s h1 h2; exact ⟨h1, h2, rfl⟩
      | cons p l ih =>
        intro s h1 h2
        rw [List.foldl_cons, List.foldl_cons]
        by_cases hp : s.2.2 ≤ li loads p.1.toNat + li c.sizes (c.sizes.length - (k + 1)) ∨ s.2.2 ≤ li loads p.2.toNat + li c.sizes (c.sizes.length - (k + 1))
        · rw [show exGStep (exG c k) c (c.sizes.length - (k + 1)) loads s p = s from if_pos hp, show exStep (exF c k) c (c.sizes.length - (k + 1)) (now.take (c.sizes.length - (k + 1))) loads s.2 p = s.2 from if_pos hp]
          exact ih s h1 h2
        · rw [show exGStep (exG c k) c (c.sizes.length - (k + 1)) loads s p = exG c k (s.1.set (c.sizes.length - (k + 1)) p) (loadStep c loads (c.sizes.length - (k + 1)) p) s.2 from if_neg hp, show exStep (exF c k) c (c.sizes.length - (k + 1)) (now.take (c.sizes.length - (k + 1))) loads s.2 p = exF c k (now.take (c.sizes.length - (k + 1)) ++ [p]) (loadStep c loads (c.sizes.length - (k + 1)) p) s.2 from if_neg hp]
          obtain ⟨g1, g2, g3⟩ := exG_exF (c := c) k (s.1.set (c.sizes.length - (k + 1)) p) (loadStep c loads (c.sizes.length - (k + 1)) p) s.2 (by omega) (by simpa using h1)
          rw [← e1, take_set_self (l := s.1) (i := c.sizes.length - (k + 1)) (by omega), h2] at g2 g3
          obtain ⟨i1, i2, i3⟩ := ih (exG c k (s.1.set (c.sizes.length - (k + 1)) p) (loadStep c loads (c.sizes.length - (k + 1)) p) s.2) g1 (by
            have := congrArg (List.take (c.sizes.length - (k + 1))) g2
            rw [List.take_take, Nat.min_eq_left (by omega)] at this
            rw [this, List.take_append_of_le_length (by rw [List.length_take]; omega), List.take_take, Nat.min_self])
          exact ⟨i1, i2, by rw [i3, g3]⟩
    exact hall _ _ hn rfl
theorem exF_two {c : CaseD} (hs : ∀ x, x ∈ c.sizes → 0 ≤ x) : ∀ (k : Nat) (pre : List (Int × Int)) (loads : List Int) (st : ExS), 0 ≤ st.2 → 0 ≤ (exF c k pre loads st).2 ∧ (exF c k pre loads st).2 ≤ st.2
  | 0, pre, loads, st, h => by
    unfold exF; split
    · exact ⟨greatest_nonneg _, Int.le_of_lt (by assumption)⟩
    · exact ⟨h, Int.le_refl _⟩
  | k + 1, pre, loads, st, h => by
    unfold exF
    refine foldl_inv (I := fun t : ExS => 0 ≤ t.2 ∧ t.2 ≤ st.2) _ _ ⟨h, Int.le_refl _⟩ fun t p _ hI => ?_
    unfold exStep
    split
    · exact hI
    · have := exF_two hs k (pre ++ [p]) (loadStep c loads (c.sizes.length - (k + 1)) p) t hI.1
      omega
theorem exG_best {c : CaseD} (hk : ∀ l : List (Int × Int), l.length = c.sizes.length → l.length ≤ c.sizes.length) : ∀ (k : Nat) (now : List (Int × Int)) (loads : List Int) (st : ExS), now.length = c.sizes.length → st.1.length ≤ c.sizes.length → (exG c k now loads st).1.length = c.sizes.length ∧ (exG c k now loads st).2.1.length ≤ c.sizes.length
  | 0, now, loads, st, hn, hb => ⟨hn, by unfold exG; simp only; split; exact hk _ hn; exact hb⟩
  | k + 1, now, loads, st, hn, hb => by
    unfold exG
    refine foldl_inv (I := fun t : ExG => t.1.length = c.sizes.length ∧ t.2.1.length ≤ c.sizes.length) _ _ ⟨hn, hb⟩ fun t p _ hI => ?_
    unfold exGStep
    split
    · exact hI
    · exact exG_best hk k _ _ _ (by simpa using hI.1) hI.2
theorem load_back {c : CaseD} {loads : List Int} {i : Nat} {p : Int × Int} (h : 0 ≤ p.1 ∧ p.1 < p.2 ∧ p.2 < loads.length) : addAt (addAt (loadStep c loads i p) p.1 (-(li c.sizes i))) p.2 (-(li c.sizes i)) = loads := by
  have hlen : (addAt (addAt (loadStep c loads i p) p.1 (-(li c.sizes i))) p.2 (-(li c.sizes i))).length = loads.length := by rw [addAt_len, addAt_len, loadStep_len]
  refine li_ext hlen fun j hj0 => ?_
  have hj : j < loads.length := by first | exact hj0 | (rw [hlen] at hj0; exact hj0)
  rw [li_addAt _ _ _ (by rw [addAt_len, loadStep_len]; exact hj), li_addAt _ _ _ (by rw [loadStep_len]; exact hj), li_loadStep c loads i p hj]
  split <;> split <;> omega
theorem subAt_enc (l : List Int) (k v : Int) : (l.map encI).set k.toNat (PV.atom (.int .i64 (li l k.toNat - v))) = (addAt l k (-v)).map encI := by
  unfold addAt; rw [List.map_set]; rfl
theorem foldl_stuck {c : CaseD} {k i : Nat} {loads : List Int} {s : ExG} {a : Nat} (h : s.2.2 ≤ li loads a + li c.sizes i) (l : List (Int × Int)) (hl : ∀ p, p ∈ l → p.1 = (a : Int)) : l.foldl (exGStep (exG c k) c i loads) s = s :=
  foldl_fix l fun p hp => if_pos (.inl (by rw [hl p hp, Int.toNat_natCast]; exact h))
theorem rowPr_split (c : CaseD) (i : Int) (a b : Nat) : ∀ n, ∃ l, rowPr c i a (b + n) = rowPr c i a b ++ l ∧ ∀ p, p ∈ l → p.1 = (a : Int)
  | 0 => ⟨[], by simp, fun p h => by cases h⟩
  | n + 1 => by
    obtain ⟨l, h1, h2⟩ := rowPr_split c i a b n
    refine ⟨l ++ if a < b + n ∧ openB c i a = true ∧ openB c i (b + n : Nat) = true then [((a : Int), ((b + n : Nat) : Int))] else [], ?_, fun p hp => ?_⟩
    · rw [show b + (n + 1) = (b + n) + 1 by omega, rowPr, h1, List.append_assoc]
    · rcases List.mem_append.1 hp with hp | hp
      · exact h2 p hp
      · split at hp
        · rw [List.mem_singleton.1 hp]
        · cases hp
theorem rowPr_shut {c : CaseD} {i : Int} {a : Nat} (h : ¬ openB c i a = true) : ∀ n, rowPr c i a n = []
  | 0 => rfl
  | n + 1 => by rw [rowPr, rowPr_shut h n, if_neg (fun g => h g.2.1)]; rfl
theorem sealed_nought (H : Nat → Option AO) (keep : Nat → Bool) : sealed H keep 0 = id := by funext p; simp only [sealed, id]
theorem vProc.whole {P : Program} {S : St} {f : FuncId} {vals args : List PV} {hp : List AO} {r : PV} {hp' : List (Option AO)} {K : PV → Eff → Prop} (L : List Nat) (hpr : Proc P f args hp r hp' []) (hn : L.Nodup) (hl : L.length = hp.length)
    (hv : vals = args.map (PV.ren (rmap L S.nx))) (ho : ∀ j o, hp[j]? = some o → ∃ o', S.obj (rmap L S.nx j) = some o' ∧ o'.sz = o.sz ∧ o'.els = o.els.map (PV.ren (rmap L S.nx))) (hk : K (r.ren (pmap L S.nx)) ⟨[], procDel L hp', procSet (pmap L S.nx) L hp', []⟩) : vProc P S f vals K :=
  ⟨L, 0, args, hp, r, hp', [], hpr, ⟨hn, hl, by rw [sealed_nought, List.map_id]; exact hv, fun i o h => by
    obtain ⟨o', h1, h2, h3⟩ := ho i o h
    exact ⟨o', h1, h2, by rw [sealed_nought, List.map_id]; exact h3⟩⟩, .inl rfl, hk⟩
set_option maxHeartbeats 4000000
theorem ResP.nine {S : St} {hp : List AO} {hp' : List (Option AO)} (h : ∀ j o, hp'[j]? = some (some o) → ∃ o', S.obj (rmap [0, 1, 2, 3, 4, 5, 6, 7, 8] S.nx j) = some o' ∧ o'.sz = o.sz ∧ o'.els.map (sealed S.obj (fun i => [0, 1, 2, 3, 4, 5, 6, 7, 8].contains i) 4) = o.els.map (PV.ren (rmap [0, 1, 2, 3, 4, 5, 6, 7, 8] S.nx)))
    (hl : hp'.length = 9) (hg : S.gh = marks 0 hp) (hgl : hp.length = 9) (hall : (hp'.all Option.isSome) = true) : ResP S [] (.tup []) hp hp' [] := by
  refine ⟨[0, 1, 2, 3, 4, 5, 6, 7, 8], 4, rfl, ⟨fun p hp => (by cases hp), fun p hpm o ho => ?_, by simp [hl], by decide, by rw [hg], fun i h1 h2 => ?_⟩⟩
  · obtain ⟨j, h1, h2⟩ := objEnv_memG hpm
    rw [List.map_nil, List.append_nil] at h2
    have hj : j < 9 := by
      have := (List.getElem?_eq_some_iff.1 h2).1
      omega
    rw [h1, Nat.zero_add]
    exact ⟨hj, h j o (by rw [h2, ho])⟩
  · have hi : i < 9 := by
      have : i < (marks 0 hp).length := h1
      rw [marks_length] at this; omega
    have e1 : (marks 0 hp)[i]'h1 = .ob i (hp[i]'(by omega)).sz 0 0 := by
      have := marks_get hp 0 i
      rw [List.getElem?_eq_getElem h1, List.getElem?_eq_getElem (by omega)] at this
      simpa using this
    have e2 : S.gh[i]'h2 = .ob i (hp[i]'(by omega)).sz 0 0 := by
      have : S.gh[i]? = (marks 0 hp)[i]? := by rw [hg]
      rw [List.getElem?_eq_getElem h2, List.getElem?_eq_getElem h1, e1] at this
      exact Option.some.inj this
    rw [e1, e2]
    have hc : [0, 1, 2, 3, 4, 5, 6, 7, 8].contains i = true := by
      match i, hi with
      | 0, _ | 1, _ | 2, _ | 3, _ | 4, _ | 5, _ | 6, _ | 7, _ | 8, _ => rfl
    have hr : rmap [0, 1, 2, 3, 4, 5, 6, 7, 8] S.nx i = i := by
      match i, hi with
      | 0, _ | 1, _ | 2, _ | 3, _ | 4, _ | 5, _ | 6, _ | 7, _ | 8, _ => rfl
    show (if [0, 1, 2, 3, 4, 5, 6, 7, 8].contains i = true then _ else _) = PV.ob (rmap [0, 1, 2, 3, 4, 5, 6, 7, 8] S.nx i) _ 0 0
    rw [if_pos hc, hr]
theorem place_base (c : CaseD) (hG : Good c) (now : List (Int × Int)) (loads : List Int) (best : List (Int × Int)) (least : Int) (h0 : 0 < c.sizes.length) (hn : now.length = c.sizes.length) (hl : LoadOk c loads) :
    Proc Try.prog 71 [encI (c.sizes.length : Nat), .ptr 0 1 0 0, .ptr 1 1 0 0, .ptr 2 1 0 0, .ptr 3 1 0 0, .ptr 4 3 0 0, .ptr 5 1 0 0, .ptr 6 1 0 0] [⟨1, [.ob 7 2 0 c.sizes.length]⟩, ⟨1, [.ob 8 1 0 c.people.toNat]⟩, ⟨1, [encI least]⟩, ⟨1, [pairs best]⟩, ⟨3, [encC c]⟩, ⟨1, [nats (opens c)]⟩, ⟨1, [.fn 71 [.ptr 0 1 0 0, .ptr 1 1 0 0, .ptr 2 1 0 0, .ptr 3 1 0 0, .ptr 4 3 0 0, .ptr 5 1 0 0, .ptr 6 1 0 0]]⟩, ⟨2, now.map encP⟩, ⟨1, loads.map encI⟩] (.tup []) [some ⟨1, [.ob 7 2 0 c.sizes.length]⟩, some ⟨1, [.ob 8 1 0 c.people.toNat]⟩, some ⟨1, [encI (exG c 0 now loads (best, least)).2.2]⟩, some ⟨1, [pairs (exG c 0 now loads (best, least)).2.1]⟩, some ⟨3, [encC c]⟩, some ⟨1, [nats (opens c)]⟩, some ⟨1, [.fn 71 [.ptr 0 1 0 0, .ptr 1 1 0 0, .ptr 2 1 0 0, .ptr 3 1 0 0, .ptr 4 3 0 0, .ptr 5 1 0 0, .ptr 6 1 0 0]]⟩, some ⟨2, (exG c 0 now loads (best, least)).1.map encP⟩, some ⟨1, loads.map encI⟩] [] := by
  have hmany := hG.many
  have hlo := hG.lo
  have hhi := hG.hi
  have hll := hl.len
  have hne : now ≠ [] := fun e => by rw [e] at hn; simp at hn; omega
  have hmx : maxFrom loads c.people.toNat = greatest loads := by rw [← hll]; exact maxFrom_all (by omega) hl.pos
  have hMax := Max_pure loads (by omega) (by omega)
  rw [hll, hmx] at hMax
  have hCl := Clone_own now hne (by omega)
  rw [hn] at hCl
  refine Proc.intro (ts := []) Try.func71 (by kernel_rfl) rfl rfl rfl (Nat.le_of_ble_eq_true rfl) rfl ?_
  simp only [objEnv, marks, List.map_cons, List.map_nil, List.length_cons, List.length_nil, Nat.zero_add, Nat.reduceAdd]
  refine Tri.scope ?_
  refine Tri.seq ?_
  refine sZ [0, 1, 2, 3, 4, 5, 6, 7, 16] (fun P S K => XvLoad P 23 (M S.hp S.nx) (S.get 1) (fun r1 _ => XvLen P 23 r1 (fun r2 _ => XvBinOV P .eql 3 (.tmp 15) (S.get 0) r2 (fun r3 _ => K ⟨[(0, S.get 0), (1, S.get 1), (2, S.get 2), (3, S.get 3), (4, S.get 4), (5, S.get 5), (6, S.get 6), (7, S.get 7), (16, r3)], S.hp, S.nx, S.gh⟩)))) fun K hK => ?_
  repeat' (first | (refine hK _ ?_; clear hK K) | refine And.intro ?_ ?_ | exact cl | exact one_encP _ | exact flat_encI _ | exact flat_encP _ | refine one_take ?_ _ | refine one_drop ?_ _ | (refine st ?_; try simp only [encC, pairs, nats, dec_self]) | simp only [encC, pairs, nats, dec_self])
  all_goals
  refine Tri.cond rfl (fun h16 => ?_) (fun h16 => ?_)
  ·try (cases h16; done)
   all_goals (try simp only [CQ] at h16)
   all_goals
   refine Tri.seq ?_
   refine sZ [1, 3, 4, 9] (fun P S K => XvLoad P 22 (M S.hp S.nx) (S.get 2) (fun r0 _ => XvFnIV P (M S.hp S.nx) (.fn 52 []) [r0] (fun r1 ef1 => K ⟨[(1, S.get 1), (3, S.get 3), (4, S.get 4), (9, r1)], (Eff.hp ef1 S.nx S.hp), (S.nx + ef1.add.length), S.gh⟩))) fun K hK => ?_
   repeat' (first | (refine hK _ ?_; clear hK K) | refine And.intro ?_ ?_ | exact cl | exact one_encP _ | exact flat_encI _ | exact flat_encP _ | refine one_take ?_ _ | refine one_drop ?_ _ | refine .inl ⟨_, _, hMax, ?_⟩ | refine .inl ⟨_, _, hCl, ?_⟩ | (refine st ?_; try simp only [encC, pairs, nats, dec_self, hll, Nat.le_refl, if_true, (show List.take c.people.toNat (loads.map encI) = loads.map encI from List.take_of_length_le (by rw [List.length_map, hll]; exact Nat.le_refl _)), map_sealed_encI]) | simp only [encC, pairs, nats, dec_self, hll, Nat.le_refl, if_true, (show List.take c.people.toNat (loads.map encI) = loads.map encI from List.take_of_length_le (by rw [List.length_map, hll]; exact Nat.le_refl _)), map_sealed_encI])
   all_goals
   refine sZ [1, 3, 4, 9, 21] (fun P S K => XvLoad P 3 (M S.hp S.nx) (S.get 3) (fun r1 _ => XvBinOV P .lss 3 (.tmp 20) (S.get 9) r1 (fun r2 _ => K ⟨[(1, S.get 1), (3, S.get 3), (4, S.get 4), (9, S.get 9), (21, r2)], S.hp, S.nx, S.gh⟩))) fun K hK => ?_
   repeat' (first | (refine hK _ ?_; clear hK K) | refine And.intro ?_ ?_ | exact cl | exact one_encP _ | exact flat_encI _ | exact flat_encP _ | refine one_take ?_ _ | refine one_drop ?_ _ | (refine st ?_; try simp only [encC, pairs, nats, dec_self]) | simp only [encC, pairs, nats, dec_self])
   all_goals
   refine Tri.cond rfl (fun h21 => ?_) (fun h21 => ?_)
   ·try (cases h21; done)
    all_goals (try simp only [CQ] at h21)
    all_goals
    refine rZ [] (fun P S K => XvLoad P 23 (M S.hp S.nx) (S.get 1) (fun r0 _ => XvFnIV P (M S.hp S.nx) (.fn 72 []) [r0] (fun r1 ef1 => XvStore P 23 (M (Eff.hp ef1 S.nx S.hp) (S.nx + ef1.add.length)) (S.get 4) r1 (fun r3 ef3 => XvStore P 3 (M (Eff.hp ef3 (S.nx + ef1.add.length) (Eff.hp ef1 S.nx S.hp)) ((S.nx + ef1.add.length) + ef3.add.length)) (S.get 3) (S.get 9) (fun r4 ef4 => K ⟨[], (Eff.hp ef4 ((S.nx + ef1.add.length) + ef3.add.length) (Eff.hp ef3 (S.nx + ef1.add.length) (Eff.hp ef1 S.nx S.hp))), (((S.nx + ef1.add.length) + ef3.add.length) + ef4.add.length), S.gh⟩))))) fun K hK => ?_
    repeat' (first | (refine hK _ ?_; clear hK K) | refine And.intro ?_ ?_ | exact cl | exact one_encP _ | exact flat_encI _ | exact flat_encP _ | refine one_take ?_ _ | refine one_drop ?_ _ | refine .inl ⟨_, _, hMax, ?_⟩ | refine .inl ⟨_, _, hCl, ?_⟩ | (refine st ?_; try simp only [encC, pairs, nats, dec_self, hn, Nat.le_refl, if_true, (show List.take c.sizes.length (now.map encP) = now.map encP from List.take_of_length_le (by rw [List.length_map, hn]; exact Nat.le_refl _)), map_sealed_encP]) | simp only [encC, pairs, nats, dec_self, hn, Nat.le_refl, if_true, (show List.take c.sizes.length (now.map encP) = now.map encP from List.take_of_length_le (by rw [List.length_map, hn]; exact Nat.le_refl _)), map_sealed_encP])
    all_goals
    refine Tri.ret ?_
    show ResP _ _ _ _ _ _
    first
    | (rw [show exG c 0 now loads (best, least) = (now, (now, greatest loads)) by unfold exG; rw [if_pos (by assumption)]]
       exact ResP.nine (fun j o h => by (match j, h with | 0, h => (cases h; refine ⟨_, rfl, rfl, ?_⟩; first | rfl | (simp [-List.map_map, -List.map_set, sealed, PV.ren, renL, rmap, encC, pairs, nats, ints, encI, renL_encP, renL_encI, renL_encN, map_sealed_encP, map_sealed_encI, map_sealed_encN, map_ren_encP, map_ren_encI, map_ren_encN, St.obj, lk, List.take_of_length_le, hn, hll]; done)) | 1, h => (cases h; refine ⟨_, rfl, rfl, ?_⟩; first | rfl | (simp [-List.map_map, -List.map_set, sealed, PV.ren, renL, rmap, encC, pairs, nats, ints, encI, renL_encP, renL_encI, renL_encN, map_sealed_encP, map_sealed_encI, map_sealed_encN, map_ren_encP, map_ren_encI, map_ren_encN, St.obj, lk, List.take_of_length_le, hn, hll]; done)) | 2, h => (cases h; refine ⟨_, rfl, rfl, ?_⟩; first | rfl | (simp [-List.map_map, -List.map_set, sealed, PV.ren, renL, rmap, encC, pairs, nats, ints, encI, renL_encP, renL_encI, renL_encN, map_sealed_encP, map_sealed_encI, map_sealed_encN, map_ren_encP, map_ren_encI, map_ren_encN, St.obj, lk, List.take_of_length_le, hn, hll]; done)) | 3, h => (cases h; refine ⟨_, rfl, rfl, ?_⟩; first | rfl | (simp [-List.map_map, -List.map_set, sealed, PV.ren, renL, rmap, encC, pairs, nats, ints, encI, renL_encP, renL_encI, renL_encN, map_sealed_encP, map_sealed_encI, map_sealed_encN, map_ren_encP, map_ren_encI, map_ren_encN, St.obj, lk, List.take_of_length_le, hn, hll]; done)) | 4, h => (cases h; refine ⟨_, rfl, rfl, ?_⟩; first | rfl | (simp [-List.map_map, -List.map_set, sealed, PV.ren, renL, rmap, encC, pairs, nats, ints, encI, renL_encP, renL_encI, renL_encN, map_sealed_encP, map_sealed_encI, map_sealed_encN, map_ren_encP, map_ren_encI, map_ren_encN, St.obj, lk, List.take_of_length_le, hn, hll]; done)) | 5, h => (cases h; refine ⟨_, rfl, rfl, ?_⟩; first | rfl | (simp [-List.map_map, -List.map_set, sealed, PV.ren, renL, rmap, encC, pairs, nats, ints, encI, renL_encP, renL_encI, renL_encN, map_sealed_encP, map_sealed_encI, map_sealed_encN, map_ren_encP, map_ren_encI, map_ren_encN, St.obj, lk, List.take_of_length_le, hn, hll]; done)) | 6, h => (cases h; refine ⟨_, rfl, rfl, ?_⟩; first | rfl | (simp [-List.map_map, -List.map_set, sealed, PV.ren, renL, rmap, encC, pairs, nats, ints, encI, renL_encP, renL_encI, renL_encN, map_sealed_encP, map_sealed_encI, map_sealed_encN, map_ren_encP, map_ren_encI, map_ren_encN, St.obj, lk, List.take_of_length_le, hn, hll]; done)) | 7, h => (cases h; refine ⟨_, rfl, rfl, ?_⟩; first | rfl | (simp [-List.map_map, -List.map_set, sealed, PV.ren, renL, rmap, encC, pairs, nats, ints, encI, renL_encP, renL_encI, renL_encN, map_sealed_encP, map_sealed_encI, map_sealed_encN, map_ren_encP, map_ren_encI, map_ren_encN, St.obj, lk, List.take_of_length_le, hn, hll]; done)) | 8, h => (cases h; refine ⟨_, rfl, rfl, ?_⟩; first | rfl | (simp [-List.map_map, -List.map_set, sealed, PV.ren, renL, rmap, encC, pairs, nats, ints, encI, renL_encP, renL_encI, renL_encN, map_sealed_encP, map_sealed_encI, map_sealed_encN, map_ren_encP, map_ren_encI, map_ren_encN, St.obj, lk, List.take_of_length_le, hn, hll]; done)) | j + 9, h => simp at h)) rfl rfl rfl rfl)
    | (rw [show exG c 0 now loads (best, least) = (now, (best, least)) by unfold exG; rw [if_neg (by assumption)]]
       exact ResP.nine (fun j o h => by (match j, h with | 0, h => (cases h; refine ⟨_, rfl, rfl, ?_⟩; first | rfl | (simp [-List.map_map, -List.map_set, sealed, PV.ren, renL, rmap, encC, pairs, nats, ints, encI, renL_encP, renL_encI, renL_encN, map_sealed_encP, map_sealed_encI, map_sealed_encN, map_ren_encP, map_ren_encI, map_ren_encN, St.obj, lk, List.take_of_length_le, hn, hll]; done)) | 1, h => (cases h; refine ⟨_, rfl, rfl, ?_⟩; first | rfl | (simp [-List.map_map, -List.map_set, sealed, PV.ren, renL, rmap, encC, pairs, nats, ints, encI, renL_encP, renL_encI, renL_encN, map_sealed_encP, map_sealed_encI, map_sealed_encN, map_ren_encP, map_ren_encI, map_ren_encN, St.obj, lk, List.take_of_length_le, hn, hll]; done)) | 2, h => (cases h; refine ⟨_, rfl, rfl, ?_⟩; first | rfl | (simp [-List.map_map, -List.map_set, sealed, PV.ren, renL, rmap, encC, pairs, nats, ints, encI, renL_encP, renL_encI, renL_encN, map_sealed_encP, map_sealed_encI, map_sealed_encN, map_ren_encP, map_ren_encI, map_ren_encN, St.obj, lk, List.take_of_length_le, hn, hll]; done)) | 3, h => (cases h; refine ⟨_, rfl, rfl, ?_⟩; first | rfl | (simp [-List.map_map, -List.map_set, sealed, PV.ren, renL, rmap, encC, pairs, nats, ints, encI, renL_encP, renL_encI, renL_encN, map_sealed_encP, map_sealed_encI, map_sealed_encN, map_ren_encP, map_ren_encI, map_ren_encN, St.obj, lk, List.take_of_length_le, hn, hll]; done)) | 4, h => (cases h; refine ⟨_, rfl, rfl, ?_⟩; first | rfl | (simp [-List.map_map, -List.map_set, sealed, PV.ren, renL, rmap, encC, pairs, nats, ints, encI, renL_encP, renL_encI, renL_encN, map_sealed_encP, map_sealed_encI, map_sealed_encN, map_ren_encP, map_ren_encI, map_ren_encN, St.obj, lk, List.take_of_length_le, hn, hll]; done)) | 5, h => (cases h; refine ⟨_, rfl, rfl, ?_⟩; first | rfl | (simp [-List.map_map, -List.map_set, sealed, PV.ren, renL, rmap, encC, pairs, nats, ints, encI, renL_encP, renL_encI, renL_encN, map_sealed_encP, map_sealed_encI, map_sealed_encN, map_ren_encP, map_ren_encI, map_ren_encN, St.obj, lk, List.take_of_length_le, hn, hll]; done)) | 6, h => (cases h; refine ⟨_, rfl, rfl, ?_⟩; first | rfl | (simp [-List.map_map, -List.map_set, sealed, PV.ren, renL, rmap, encC, pairs, nats, ints, encI, renL_encP, renL_encI, renL_encN, map_sealed_encP, map_sealed_encI, map_sealed_encN, map_ren_encP, map_ren_encI, map_ren_encN, St.obj, lk, List.take_of_length_le, hn, hll]; done)) | 7, h => (cases h; refine ⟨_, rfl, rfl, ?_⟩; first | rfl | (simp [-List.map_map, -List.map_set, sealed, PV.ren, renL, rmap, encC, pairs, nats, ints, encI, renL_encP, renL_encI, renL_encN, map_sealed_encP, map_sealed_encI, map_sealed_encN, map_ren_encP, map_ren_encI, map_ren_encN, St.obj, lk, List.take_of_length_le, hn, hll]; done)) | 8, h => (cases h; refine ⟨_, rfl, rfl, ?_⟩; first | rfl | (simp [-List.map_map, -List.map_set, sealed, PV.ren, renL, rmap, encC, pairs, nats, ints, encI, renL_encP, renL_encI, renL_encN, map_sealed_encP, map_sealed_encI, map_sealed_encN, map_ren_encP, map_ren_encI, map_ren_encN, St.obj, lk, List.take_of_length_le, hn, hll]; done)) | j + 9, h => simp at h)) rfl rfl rfl rfl)
   ·try (cases h21; done)
    all_goals (try simp only [CQ] at h21)
    all_goals
    refine Tri.skip ?_
    refine Tri.ret ?_
    show ResP _ _ _ _ _ _
    first
    | (rw [show exG c 0 now loads (best, least) = (now, (now, greatest loads)) by unfold exG; rw [if_pos (by assumption)]]
       exact ResP.nine (fun j o h => by (match j, h with | 0, h => (cases h; refine ⟨_, rfl, rfl, ?_⟩; first | rfl | (simp [-List.map_map, -List.map_set, sealed, PV.ren, renL, rmap, encC, pairs, nats, ints, encI, renL_encP, renL_encI, renL_encN, map_sealed_encP, map_sealed_encI, map_sealed_encN, map_ren_encP, map_ren_encI, map_ren_encN, St.obj, lk, List.take_of_length_le, hn, hll]; done)) | 1, h => (cases h; refine ⟨_, rfl, rfl, ?_⟩; first | rfl | (simp [-List.map_map, -List.map_set, sealed, PV.ren, renL, rmap, encC, pairs, nats, ints, encI, renL_encP, renL_encI, renL_encN, map_sealed_encP, map_sealed_encI, map_sealed_encN, map_ren_encP, map_ren_encI, map_ren_encN, St.obj, lk, List.take_of_length_le, hn, hll]; done)) | 2, h => (cases h; refine ⟨_, rfl, rfl, ?_⟩; first | rfl | (simp [-List.map_map, -List.map_set, sealed, PV.ren, renL, rmap, encC, pairs, nats, ints, encI, renL_encP, renL_encI, renL_encN, map_sealed_encP, map_sealed_encI, map_sealed_encN, map_ren_encP, map_ren_encI, map_ren_encN, St.obj, lk, List.take_of_length_le, hn, hll]; done)) | 3, h => (cases h; refine ⟨_, rfl, rfl, ?_⟩; first | rfl | (simp [-List.map_map, -List.map_set, sealed, PV.ren, renL, rmap, encC, pairs, nats, ints, encI, renL_encP, renL_encI, renL_encN, map_sealed_encP, map_sealed_encI, map_sealed_encN, map_ren_encP, map_ren_encI, map_ren_encN, St.obj, lk, List.take_of_length_le, hn, hll]; done)) | 4, h => (cases h; refine ⟨_, rfl, rfl, ?_⟩; first | rfl | (simp [-List.map_map, -List.map_set, sealed, PV.ren, renL, rmap, encC, pairs, nats, ints, encI, renL_encP, renL_encI, renL_encN, map_sealed_encP, map_sealed_encI, map_sealed_encN, map_ren_encP, map_ren_encI, map_ren_encN, St.obj, lk, List.take_of_length_le, hn, hll]; done)) | 5, h => (cases h; refine ⟨_, rfl, rfl, ?_⟩; first | rfl | (simp [-List.map_map, -List.map_set, sealed, PV.ren, renL, rmap, encC, pairs, nats, ints, encI, renL_encP, renL_encI, renL_encN, map_sealed_encP, map_sealed_encI, map_sealed_encN, map_ren_encP, map_ren_encI, map_ren_encN, St.obj, lk, List.take_of_length_le, hn, hll]; done)) | 6, h => (cases h; refine ⟨_, rfl, rfl, ?_⟩; first | rfl | (simp [-List.map_map, -List.map_set, sealed, PV.ren, renL, rmap, encC, pairs, nats, ints, encI, renL_encP, renL_encI, renL_encN, map_sealed_encP, map_sealed_encI, map_sealed_encN, map_ren_encP, map_ren_encI, map_ren_encN, St.obj, lk, List.take_of_length_le, hn, hll]; done)) | 7, h => (cases h; refine ⟨_, rfl, rfl, ?_⟩; first | rfl | (simp [-List.map_map, -List.map_set, sealed, PV.ren, renL, rmap, encC, pairs, nats, ints, encI, renL_encP, renL_encI, renL_encN, map_sealed_encP, map_sealed_encI, map_sealed_encN, map_ren_encP, map_ren_encI, map_ren_encN, St.obj, lk, List.take_of_length_le, hn, hll]; done)) | 8, h => (cases h; refine ⟨_, rfl, rfl, ?_⟩; first | rfl | (simp [-List.map_map, -List.map_set, sealed, PV.ren, renL, rmap, encC, pairs, nats, ints, encI, renL_encP, renL_encI, renL_encN, map_sealed_encP, map_sealed_encI, map_sealed_encN, map_ren_encP, map_ren_encI, map_ren_encN, St.obj, lk, List.take_of_length_le, hn, hll]; done)) | j + 9, h => simp at h)) rfl rfl rfl rfl)
    | (rw [show exG c 0 now loads (best, least) = (now, (best, least)) by unfold exG; rw [if_neg (by assumption)]]
       exact ResP.nine (fun j o h => by (match j, h with | 0, h => (cases h; refine ⟨_, rfl, rfl, ?_⟩; first | rfl | (simp [-List.map_map, -List.map_set, sealed, PV.ren, renL, rmap, encC, pairs, nats, ints, encI, renL_encP, renL_encI, renL_encN, map_sealed_encP, map_sealed_encI, map_sealed_encN, map_ren_encP, map_ren_encI, map_ren_encN, St.obj, lk, List.take_of_length_le, hn, hll]; done)) | 1, h => (cases h; refine ⟨_, rfl, rfl, ?_⟩; first | rfl | (simp [-List.map_map, -List.map_set, sealed, PV.ren, renL, rmap, encC, pairs, nats, ints, encI, renL_encP, renL_encI, renL_encN, map_sealed_encP, map_sealed_encI, map_sealed_encN, map_ren_encP, map_ren_encI, map_ren_encN, St.obj, lk, List.take_of_length_le, hn, hll]; done)) | 2, h => (cases h; refine ⟨_, rfl, rfl, ?_⟩; first | rfl | (simp [-List.map_map, -List.map_set, sealed, PV.ren, renL, rmap, encC, pairs, nats, ints, encI, renL_encP, renL_encI, renL_encN, map_sealed_encP, map_sealed_encI, map_sealed_encN, map_ren_encP, map_ren_encI, map_ren_encN, St.obj, lk, List.take_of_length_le, hn, hll]; done)) | 3, h => (cases h; refine ⟨_, rfl, rfl, ?_⟩; first | rfl | (simp [-List.map_map, -List.map_set, sealed, PV.ren, renL, rmap, encC, pairs, nats, ints, encI, renL_encP, renL_encI, renL_encN, map_sealed_encP, map_sealed_encI, map_sealed_encN, map_ren_encP, map_ren_encI, map_ren_encN, St.obj, lk, List.take_of_length_le, hn, hll]; done)) | 4, h => (cases h; refine ⟨_, rfl, rfl, ?_⟩; first | rfl | (simp [-List.map_map, -List.map_set, sealed, PV.ren, renL, rmap, encC, pairs, nats, ints, encI, renL_encP, renL_encI, renL_encN, map_sealed_encP, map_sealed_encI, map_sealed_encN, map_ren_encP, map_ren_encI, map_ren_encN, St.obj, lk, List.take_of_length_le, hn, hll]; done)) | 5, h => (cases h; refine ⟨_, rfl, rfl, ?_⟩; first | rfl | (simp [-List.map_map, -List.map_set, sealed, PV.ren, renL, rmap, encC, pairs, nats, ints, encI, renL_encP, renL_encI, renL_encN, map_sealed_encP, map_sealed_encI, map_sealed_encN, map_ren_encP, map_ren_encI, map_ren_encN, St.obj, lk, List.take_of_length_le, hn, hll]; done)) | 6, h => (cases h; refine ⟨_, rfl, rfl, ?_⟩; first | rfl | (simp [-List.map_map, -List.map_set, sealed, PV.ren, renL, rmap, encC, pairs, nats, ints, encI, renL_encP, renL_encI, renL_encN, map_sealed_encP, map_sealed_encI, map_sealed_encN, map_ren_encP, map_ren_encI, map_ren_encN, St.obj, lk, List.take_of_length_le, hn, hll]; done)) | 7, h => (cases h; refine ⟨_, rfl, rfl, ?_⟩; first | rfl | (simp [-List.map_map, -List.map_set, sealed, PV.ren, renL, rmap, encC, pairs, nats, ints, encI, renL_encP, renL_encI, renL_encN, map_sealed_encP, map_sealed_encI, map_sealed_encN, map_ren_encP, map_ren_encI, map_ren_encN, St.obj, lk, List.take_of_length_le, hn, hll]; done)) | 8, h => (cases h; refine ⟨_, rfl, rfl, ?_⟩; first | rfl | (simp [-List.map_map, -List.map_set, sealed, PV.ren, renL, rmap, encC, pairs, nats, ints, encI, renL_encP, renL_encI, renL_encN, map_sealed_encP, map_sealed_encI, map_sealed_encN, map_ren_encP, map_ren_encI, map_ren_encN, St.obj, lk, List.take_of_length_le, hn, hll]; done)) | j + 9, h => simp at h)) rfl rfl rfl rfl)
  ·try (cases h16; done)
   all_goals (try simp only [CQ] at h16)
   all_goals
   refine Tri.skip ?_
   refine sZ [0, 1, 2, 3, 5, 6, 7, 10] (fun P S K => XvFieldAddr P 38 0 (S.get 5) (fun r0 _ => XvLoad P 22 (M S.hp S.nx) r0 (fun r1 _ => XvIndexAddr P 22 r1 (S.get 0) (fun r3 _ => XvLoad P 3 (M S.hp S.nx) r3 (fun r4 _ => K ⟨[(0, S.get 0), (1, S.get 1), (2, S.get 2), (3, S.get 3), (5, S.get 5), (6, S.get 6), (7, S.get 7), (10, r4)], S.hp, S.nx, S.gh⟩))))) fun K hK => ?_
   repeat' (first | (refine hK _ ?_; clear hK K) | refine And.intro ?_ ?_ | exact cl | exact one_encP _ | exact flat_encI _ | exact flat_encP _ | refine one_take ?_ _ | refine one_drop ?_ _ | (refine st ?_; try simp only [encC, pairs, nats, dec_self]) | simp only [encC, pairs, nats, dec_self])
   all_goals
   refine Tri.seq ?_
   refine Tri.label ?_
   refine sZ [0, 1, 2, 3, 5, 6, 7, 10, 31, 32] (fun P S K => XvFieldAddr P 38 1 (S.get 5) (fun r0 _ => XvLoad P 3 (M S.hp S.nx) r0 (fun r1 _ => K ⟨[(0, S.get 0), (1, S.get 1), (2, S.get 2), (3, S.get 3), (5, S.get 5), (6, S.get 6), (7, S.get 7), (10, S.get 10), (31, r1), (32, (.atom (.int .i64 0)))], S.hp, S.nx, S.gh⟩))) fun K hK => ?_
   repeat' (first | (refine hK _ ?_; clear hK K) | refine And.intro ?_ ?_ | exact cl | exact one_encP _ | exact flat_encI _ | exact flat_encP _ | refine one_take ?_ _ | refine one_drop ?_ _ | (refine st ?_; try simp only [encC, pairs, nats, dec_self]) | simp only [encC, pairs, nats, dec_self])
   all_goals
   refine Tri.block ?_
   fail -- LOOP 0
end Go.Proofs.Ytcdeilgijleoaaa
