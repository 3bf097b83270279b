/-
  Walks: Loads of package assign.
-/
import Derived.Test.YtcdeilgijleoaaaNA1
import Derived.Test.YtcdeilgijleoaaaNB22
import Derived.Test.YtcdeilgijleoaaaNB16
import Derived.Test.YtcdeilgijleoaaaNVR
set_option linter.all false
namespace Go.Proofs.Ytcdeilgijleoaaa
open Go Go.RowKit
set_option maxRecDepth 20000
set_option maxHeartbeats 1000000
theorem lstB23 {p : Prop} (h : p := by (first | rfl | (simp [St.born, St.known, retV, St.get, St.obj, lk, sealed, PV.ren, renL, rmap, AO.ren, ints, strs, encI, encS, map_sealed_encI, map_sealed_encS, map_sealed_ints, map_sealed_strs, map_ren_encI, map_ren_encS, map_ren_ints, map_ren_strs, renL_encI, renL_encS, renL_ints, renL_strs, ren_case, encC, pairs, renL_encP, map_sealed_encP, map_ren_encP, encP, take_map_len, renL_encN, map_sealed_encN, map_ren_encN, nats, take_map_len, List.take_length]; done)); first | done | fail) : p := h
theorem bit_open (c : CaseD) (i : Int) {p : Int} (h0 : 0 ≤ p) (h1 : p < c.people) (h2 : c.people ≤ 6) : decide (bits .and .u64 (((maskN (fun (p : Nat) => openB c i p) c.people.toNat : Nat) : Int).fdiv (2 ^ min p.toNat IntKind.u64.bits)) 1 = 0) = !openB c i p := by
  have := mask_bit (fun (p : Nat) => openB c i p) (n := c.people.toNat) (p := p.toNat) (by omega) (by omega)
  show decide (bits .and .u64 (((maskN (fun (p : Nat) => openB c i p) c.people.toNat : Nat) : Int).fdiv (2 ^ min p.toNat 64)) 1 = 0) = !openB c i p
  rw [this, show ((p.toNat : Nat) : Int) = p by omega]
  cases openB c i p <;> rfl
theorem aLoads_pure (c : CaseD) (ps : List (Int × Int)) (hc : Held c) (hps : ps.length ≤ 1000000) : Pure Try.prog 18 [encC c, pairs ps] (.tup [ints (loadsR c ps), encI (loadsE c ps)]) [] := by
  have hbl := hc.bars
  have hsl := hc.sizes
  refine Pure.intro (ts := [4, 5]) Try.func18 (by kernel_rfl) rfl rfl rfl (Nat.le_of_ble_eq_true rfl) ?_ ?_
  · simp [pure_case, pure_pairs, encI, PV.pure, pureL]
  refine sZ [1, 2] (fun P S K => XvBox S.nx (S.get 0) (fun r0 ef0 => K ⟨[(1, S.get 1), (2, r0)], (Eff.hp ef0 S.nx S.hp), (S.nx + ef0.add.length), S.gh⟩)) fun K hK => ?_
  repeat' (first | (refine hK _ ?_; clear hK K) | refine And.intro ?_ ?_ | exact cl | (refine st ?_; try simp only [encC, pairs, encP]) | simp only [encC, pairs, encP])
  all_goals
  refine Tri.seq ?_
  refine sZ [1, 2, 6] (fun P S K => XvLoad P 38 (M S.hp S.nx) (S.get 2) (fun r0 _ => XvFnIV P (M S.hp S.nx) (.fn 15 []) [r0] (fun r1 ef1 => K ⟨[(1, S.get 1), (2, S.get 2), (6, r1)], (Eff.hp ef1 S.nx S.hp), (S.nx + ef1.add.length), S.gh⟩))) fun K hK => ?_
  repeat' (first | (refine hK _ ?_; clear hK K) | refine And.intro ?_ ?_ | exact cl | refine .inl ⟨_, _, aValid_pure c hc, ?_⟩ | (refine st ?_; try simp only [encC, pairs, encP]) | simp only [encC, pairs, encP])
  all_goals
  refine sY [1, 2, 6, 14] (fun P S K => XvBinOV P .neq 32 (.const (.int .i64 0)) (S.get 6) (.atom (.int .i64 0)) (fun r1 _ => K ⟨[(1, S.get 1), (2, S.get 2), (6, S.get 6), (14, r1)], S.hp, S.nx, S.gh⟩)) ?_
  all_goals
  refine Tri.cond rfl (fun h14 => ?_) (fun h14 => ?_)
  ·try (cases h14; done)
   all_goals (try simp only [CQ] at h14)
   all_goals
   refine sY [4, 5] (fun P S K => K ⟨[(4, (.atom (.slice none 0 0))), (5, (S.get 6))], S.hp, S.nx, S.gh⟩) ?_
   refine Tri.asSl 4 1 rfl ?_
   all_goals
   refine Tri.ret ?_
   show ResOk _ _ _ _
   rw [(loads_bad h14).1, (loads_bad h14).2]
   exact ResOk.frz 5 lstB23 lpvB20
  ·try (cases h14; done)
   all_goals (try simp only [CQ] at h14)
   all_goals
   refine Tri.skip ?_
   refine Tri.seq ?_
   have hv : validC c = 0 := by omega
   have hG := valid_good hv
   have hpl := hG.lo
   have hph := hG.hi
   have hmany := hG.many
   refine sZ [1, 2, 21] (fun P S K => XvLen P 23 (S.get 1) (fun r1 _ => XvFieldAddr P 38 0 (S.get 2) (fun r2 _ => XvLoad P 22 (M S.hp S.nx) r2 (fun r3 _ => XvLen P 22 r3 (fun r4 _ => XvBinOV P .neq 3 (.tmp 20) r1 r4 (fun r5 _ => K ⟨[(1, S.get 1), (2, S.get 2), (21, r5)], S.hp, S.nx, S.gh⟩)))))) fun K hK => ?_
   repeat' (first | (refine hK _ ?_; clear hK K) | refine And.intro ?_ ?_ | exact cl | (refine st ?_; try simp only [encC, pairs, encP]) | simp only [encC, pairs, encP])
   all_goals
   refine Tri.cond rfl (fun h21 => ?_) (fun h21 => ?_)
   ·try (cases h21; done)
    all_goals (try simp only [CQ] at h21)
    all_goals
    refine sY [4, 5] (fun P S K => K ⟨[(4, (.atom (.slice none 0 0))), (5, (.atom (.int .i64 1)))], S.hp, S.nx, S.gh⟩) ?_
    refine Tri.asSl 4 1 rfl ?_
    all_goals
    refine Tri.ret ?_
    show ResOk _ _ _ _
    rw [(loads_len hv (by omega)).1, (loads_len hv (by omega)).2]
    exact ResOk.frz 5 lstB23 lpvB20
   ·try (cases h21; done)
    all_goals (try simp only [CQ] at h21)
    all_goals
    refine Tri.skip ?_
    refine sZ [1, 2, 7] (fun P S K => XvLoad P 38 (M S.hp S.nx) (S.get 2) (fun r0 _ => XvFnIV P (M S.hp S.nx) (.fn 46 []) [r0] (fun r1 ef1 => K ⟨[(1, S.get 1), (2, S.get 2), (7, r1)], (Eff.hp ef1 S.nx S.hp), (S.nx + ef1.add.length), S.gh⟩))) fun K hK => ?_
    repeat' (first | (refine hK _ ?_; clear hK K) | refine And.intro ?_ ?_ | exact cl | refine .inl ⟨_, _, open_pure c hG.five (by omega), ?_⟩ | (refine st ?_; try simp only [encC, pairs, encP, nats, renL_encN]) | simp only [encC, pairs, encP, nats, renL_encN])
    all_goals
    refine sZ [1, 2, 7, 8] (fun P S K => XvFieldAddr P 38 1 (S.get 2) (fun r0 _ => XvLoad P 3 (M S.hp S.nx) r0 (fun r1 _ => XvMake P 22 (M S.hp S.nx) r1 r1 (fun r2 ef2 => K ⟨[(1, S.get 1), (2, S.get 2), (7, S.get 7), (8, r2)], (Eff.hp ef2 S.nx S.hp), (S.nx + ef2.add.length), S.gh⟩)))) fun K hK => ?_
    repeat' (first | (refine hK _ ?_; clear hK K) | ((first | refine xG_intro (fun hg => ?_) (fun hg => ?_) | refine fun (hg : (_ : Prop)) => ?_) <;> ((try simp only [BQ] at hg); try (exfalso; omega))) | refine And.intro ?_ ?_ | exact cl | refine one_take ?_ _ | refine one_drop ?_ _ | simp (maxSteps := 2000000) only [↓SD, push_cast, Nat.reduceAdd, Nat.reduceSub, Nat.reduceMul, Nat.reduceLT, Nat.reduceLeDiff, Nat.reduceEqDiff, Int.reduceToNat, reduceIte, reduceCtorEq, Int.reduceLE, Int.reduceLT, Int.reduceNeg, ints, strs, encI, encS, encC, pairs, encP])
    rw [zeros_loads c ps]
    all_goals
    refine Tri.seq ?_
    refine sZ [2, 7, 8, 27, 28, 29] (fun P S K => XvLen P 23 (S.get 1) (fun r1 _ => K ⟨[(2, S.get 2), (7, S.get 7), (8, S.get 8), (27, (S.get 1)), (28, r1), (29, (.atom (.int .i64 0)))], S.hp, S.nx, S.gh⟩)) fun K hK => ?_
    repeat' (first | (refine hK _ ?_; clear hK K) | refine And.intro ?_ ?_ | exact cl | (refine st ?_; try simp only [encC, pairs, encP]) | simp only [encC, pairs, encP])
    all_goals
    refine Tri.block ?_
    refine Tri.loop (α := (i : Nat) ×' (i ≤ ps.length ∧ ∀ j, j < i → badPair c j (lp ps j) = false)) (fun z => (fun (i : Nat) => (⟨[(2, .ptr 0 3 0 0), (7, nats (opens c)), (8, .ob 1 1 0 c.people.toNat), (27, pairs ps), (28, encI ps.length), (29, encI i)], [(0, some ⟨3, [encC c]⟩), (1, some ⟨1, (loadsG c ps i).map encI⟩)], 2, []⟩ : St)) z.1) (fun z => (fun (i : Nat) => ps.length - i) z.1) ⟨0, ⟨Nat.zero_le _, fun j hj => absurd hj (Nat.not_lt_zero _)⟩⟩ [0, 1] ?_ ?_
    ·exact leqB21
    ·rintro ⟨i, ⟨hi, hnb⟩⟩
     refine sY [2, 7, 8, 27, 28, 29, 30] (fun P S K => XvBinOV P .lss 3 (.tmp 28) (S.get 29) (S.get 28) (fun r0 _ => K ⟨[(2, S.get 2), (7, S.get 7), (8, S.get 8), (27, S.get 27), (28, S.get 28), (29, S.get 29), (30, r0)], S.hp, S.nx, S.gh⟩)) ?_
     all_goals
     refine Tri.seq ?_
     refine Tri.cond rfl (fun h30 => ?_) (fun h30 => ?_)
     ·try (cases h30; done)
      all_goals (try simp only [CQ] at h30)
      all_goals
      refine Tri.skip ?_
      refine Tri.seq ?_
      refine Tri.block ?_
      have hil : i < ps.length := by omega
      have hlg := loadsG_len c ps i
      have hol : i < (opens c).length := by rw [opens_len]; omega
      have hog := opens_get (c := c) (i := i) (by omega)
      obtain ⟨x1, x2, hxe⟩ : ∃ x1 x2, lp ps i = (x1, x2) := ⟨_, _, rfl⟩
      have hgx : (ps.map encP).getD i .junk = .agg [.atom (.int .i64 x1), .atom (.int .i64 x2)] := by rw [getD_encP hil, hxe]; rfl
      refine sZ [2, 7, 8, 9, 10, 27, 28, 29] (fun P S K => XvIndexAddr P 23 (S.get 27) (S.get 29) (fun r1 _ => XvLoad P 67 (M S.hp S.nx) r1 (fun r2 _ => XvAlloc P 67 S.nx (fun r3 ef3 => XvStore P 67 (M (Eff.hp ef3 S.nx S.hp) (S.nx + ef3.add.length)) r3 r2 (fun r5 ef5 => K ⟨[(2, S.get 2), (7, S.get 7), (8, S.get 8), (9, (S.get 29)), (10, r3), (27, S.get 27), (28, S.get 28), (29, S.get 29)], (Eff.hp ef5 (S.nx + ef3.add.length) (Eff.hp ef3 S.nx S.hp)), ((S.nx + ef3.add.length) + ef5.add.length), S.gh⟩))))) fun K hK => ?_
      repeat' (first | (refine hK _ ?_; clear hK K) | refine And.intro ?_ ?_ | exact cl | (refine st ?_; try simp only [encC, pairs, encP, hgx]) | simp only [encC, pairs, encP, hgx])
      all_goals
      refine Tri.seq ?_
      obtain hx | hx | hx | hx : x1 < 0 ∨ (0 ≤ x1 ∧ x2 ≤ x1) ∨ (0 ≤ x1 ∧ x1 < x2 ∧ c.people ≤ x2) ∨ (0 ≤ x1 ∧ x1 < x2 ∧ x2 < c.people) := by omega
      all_goals (try have hb1 := bit_open c i (p := x1) (by omega) (by omega) hph)
      all_goals (try have hb2 := bit_open c i (p := x2) (by omega) (by omega) hph)
      all_goals generalize hmk : maskN (fun (p : Nat) => openB c i p) c.people.toNat = mk at *
      all_goals generalize ho1 : openB c i x1 = o1 at *
      all_goals generalize ho2 : openB c i x2 = o2 at *
      all_goals
      refine sDa 39 [2, 7, 8, 9, 10, 27, 28, 29, 72] (fun P GD S K => XvIndexAddr P 67 (S.get 10) (.atom (.int .i64 0)) (fun r0 ef0 => XvLoad P 3 (M S.hp S.nx) r0 (fun r1 ef1 => XvBinOV P .lss 3 (.const (.int .i64 0)) r1 (.atom (.int .i64 0)) (fun r2 ef2 => Xge r2 false (fun k => XvIndexAddr P 67 (S.get 10) (.atom (.int .i64 0)) k) (fun g4 r4 ef4 => Xge g4 false (fun k => XvLoad P 3 (M S.hp S.nx) r4 k) (fun g5 r5 ef5 => Xge g5 false (fun k => XvIndexAddr P 67 (S.get 10) (.atom (.int .i64 1)) k) (fun g6 r6 ef6 => Xge g6 false (fun k => XvLoad P 3 (M S.hp S.nx) r6 k) (fun g7 r7 ef7 => Xge g7 false (fun k => XvBinOV P .geq 3 (.tmp 41) r5 r7 k) (fun g8 r8 ef8 => XvPick g8 (.atom (.bool true)) r8 (fun r9 ef9 => Xge r9 false (fun k => XvIndexAddr P 67 (S.get 10) (.atom (.int .i64 1)) k) (fun g11 r11 ef11 => Xge g11 false (fun k => XvLoad P 3 (M S.hp S.nx) r11 k) (fun g12 r12 ef12 => Xge g12 false (fun k => XvFieldAddr P 38 1 (S.get 2) k) (fun g13 r13 ef13 => Xge g13 false (fun k => XvLoad P 3 (M S.hp S.nx) r13 k) (fun g14 r14 ef14 => Xge g14 false (fun k => XvBinOV P .geq 3 (.tmp 48) r12 r14 k) (fun g15 r15 ef15 => XvPick g15 (.atom (.bool true)) r15 (fun r16 ef16 => Xge r16 false (fun k => k (S.get 7) e0) (fun g18 r18 ef18 => Xge g18 false (fun k => k (S.get 9) e0) (fun g19 r19 ef19 => Xge g19 false (fun k => XvIndexAddr P 82 r18 r19 k) (fun g20 r20 ef20 => Xge g20 false (fun k => XvLoad P 83 (M S.hp S.nx) r20 k) (fun g21 r21 ef21 => Xge g21 false (fun k => XvIndexAddr P 67 (S.get 10) (.atom (.int .i64 0)) k) (fun g22 r22 ef22 => Xge g22 false (fun k => XvLoad P 3 (M S.hp S.nx) r22 k) (fun g23 r23 ef23 => Xge g23 false (fun k => XvBinOV P .shr 83 (.tmp 57) r21 r23 k) (fun g24 r24 ef24 => Xge g24 false (fun k => XvBinOV P .and 83 (.const (.int .u64 1)) r24 (.atom (.int .u64 1)) k) (fun g25 r25 ef25 => Xge g25 false (fun k => XvBinOV P .eql 83 (.const (.int .u64 0)) r25 (.atom (.int .u64 0)) k) (fun g26 r26 ef26 => XvPick g26 (.atom (.bool true)) r26 (fun r27 ef27 => Xge r27 false (fun k => k (S.get 7) e0) (fun g29 r29 ef29 => Xge g29 false (fun k => k (S.get 9) e0) (fun g30 r30 ef30 => Xge g30 false (fun k => XvIndexAddr P 82 r29 r30 k) (fun g31 r31 ef31 => Xge g31 false (fun k => XvLoad P 83 (M S.hp S.nx) r31 k) (fun g32 r32 ef32 => Xge g32 false (fun k => XvIndexAddr P 67 (S.get 10) (.atom (.int .i64 1)) k) (fun g33 r33 ef33 => Xge g33 false (fun k => XvLoad P 3 (M S.hp S.nx) r33 k) (fun g34 r34 ef34 => Xge g34 false (fun k => XvBinOV P .shr 83 (.tmp 68) r32 r34 k) (fun g35 r35 ef35 => Xge g35 false (fun k => XvBinOV P .and 83 (.const (.int .u64 1)) r35 (.atom (.int .u64 1)) k) (fun g36 r36 ef36 => Xge g36 false (fun k => XvBinOV P .eql 83 (.const (.int .u64 0)) r36 (.atom (.int .u64 0)) k) (fun g37 r37 ef37 => XvPick g37 (.atom (.bool true)) r37 (fun r38 ef38 => (trOk S.nx GD [⟨S.nx, 0, ef0.rd, [], []⟩, ⟨S.nx, 0, ef1.rd, [], []⟩, ⟨S.nx, 0, ef2.rd, [], []⟩, ⟨S.nx, 0, [], [], []⟩, ⟨S.nx, 0, ef4.rd, [], []⟩, ⟨S.nx, 0, ef5.rd, [], []⟩, ⟨S.nx, 0, ef6.rd, [], []⟩, ⟨S.nx, 0, ef7.rd, [], []⟩, ⟨S.nx, 0, ef8.rd, [], []⟩, ⟨S.nx, 0, ef9.rd, [], []⟩, ⟨S.nx, 0, [], [], []⟩, ⟨S.nx, 0, ef11.rd, [], []⟩, ⟨S.nx, 0, ef12.rd, [], []⟩, ⟨S.nx, 0, ef13.rd, [], []⟩, ⟨S.nx, 0, ef14.rd, [], []⟩, ⟨S.nx, 0, ef15.rd, [], []⟩, ⟨S.nx, 0, ef16.rd, [], []⟩, ⟨S.nx, 0, [], [], []⟩, ⟨S.nx, 0, ef18.rd, [], []⟩, ⟨S.nx, 0, ef19.rd, [], []⟩, ⟨S.nx, 0, ef20.rd, [], []⟩, ⟨S.nx, 0, ef21.rd, [], []⟩, ⟨S.nx, 0, ef22.rd, [], []⟩, ⟨S.nx, 0, ef23.rd, [], []⟩, ⟨S.nx, 0, ef24.rd, [], []⟩, ⟨S.nx, 0, ef25.rd, [], []⟩, ⟨S.nx, 0, ef26.rd, [], []⟩, ⟨S.nx, 0, ef27.rd, [], []⟩, ⟨S.nx, 0, [], [], []⟩, ⟨S.nx, 0, ef29.rd, [], []⟩, ⟨S.nx, 0, ef30.rd, [], []⟩, ⟨S.nx, 0, ef31.rd, [], []⟩, ⟨S.nx, 0, ef32.rd, [], []⟩, ⟨S.nx, 0, ef33.rd, [], []⟩, ⟨S.nx, 0, ef34.rd, [], []⟩, ⟨S.nx, 0, ef35.rd, [], []⟩, ⟨S.nx, 0, ef36.rd, [], []⟩, ⟨S.nx, 0, ef37.rd, [], []⟩, ⟨S.nx, 0, ef38.rd, [], []⟩] = true ∧ K ⟨[(2, S.get 2), (7, S.get 7), (8, S.get 8), (9, S.get 9), (10, S.get 10), (27, S.get 27), (28, S.get 28), (29, S.get 29), (72, r38)], S.hp, S.nx, S.gh⟩))))))))))))))))))))))))))))))))))))) fun K hK S1 hS1 => ?_
      have hab0 : S1.get 2 = .ptr 0 3 0 0 := by subst hS1; rfl
      have hab1 : S1.get 7 = nats (opens c) := by subst hS1; rfl
      have hab2 : S1.get 9 = encI i := by subst hS1; rfl
      have hab3 : S1.get 10 = .ptr 2 2 0 0 := by subst hS1; rfl
      have hab4 : lk S1.hp 0 = some (some ⟨3, [encC c]⟩) := by subst hS1; rfl
      have hab5 : lk S1.hp 2 = some (some ⟨2, [.agg [.atom (.int .i64 x1), .atom (.int .i64 x2)]]⟩) := by subst hS1; rfl
      have hab6 : S1.nx = 3 := by subst hS1; rfl
      repeat' (first | (refine hK _ ?_; clear hK K) | (refine (?_ : trOk _ _ _ = true); kernel_rfl) | ((first | refine xG_intro (fun hg => ?_) (fun hg => ?_) | refine fun (hg : (_ : Prop)) => ?_) <;> ((try simp only [BQ] at hg); try (exfalso; omega))) | refine And.intro ?_ ?_ | exact cl | refine one_take ?_ _ | refine one_drop ?_ _ | simp (maxSteps := 2000000) only [↓SD, push_cast, Nat.reduceAdd, Nat.reduceSub, Nat.reduceMul, Nat.reduceLT, Nat.reduceLeDiff, Nat.reduceEqDiff, Int.reduceToNat, reduceIte, reduceCtorEq, Int.reduceLE, Int.reduceLT, Int.reduceNeg, ints, strs, encI, encS, encC, pairs, encP, ↓SE, dec_no (show ¬ x1 < 0 by omega), dec_no (show ¬ x2 ≤ x1 by omega), dec_no (show ¬ c.people ≤ x2 by omega), nats, getD_encN hol, hog, encN, hb1, hb2, hab0, hab1, hab2, hab3, hab4, hab5, hab6] | simp (maxSteps := 2000000) only [↓SD, push_cast, Nat.reduceAdd, Nat.reduceSub, Nat.reduceMul, Nat.reduceLT, Nat.reduceLeDiff, Nat.reduceEqDiff, Int.reduceToNat, reduceIte, reduceCtorEq, Int.reduceLE, Int.reduceLT, Int.reduceNeg, ints, strs, encI, encS, encC, pairs, encP, ↓SE, dec_yes hx, hab0, hab1, hab2, hab3, hab4, hab5, hab6] | simp (maxSteps := 2000000) only [↓SD, push_cast, Nat.reduceAdd, Nat.reduceSub, Nat.reduceMul, Nat.reduceLT, Nat.reduceLeDiff, Nat.reduceEqDiff, Int.reduceToNat, reduceIte, reduceCtorEq, Int.reduceLE, Int.reduceLT, Int.reduceNeg, ints, strs, encI, encS, encC, pairs, encP, ↓SE, dec_no (show ¬ x1 < 0 by omega), dec_yes hx.2, hab0, hab1, hab2, hab3, hab4, hab5, hab6])
      all_goals try simp (disch := omega) only [wrap_id, wrap8_id]
      all_goals subst hS1
      all_goals clear hab0 hab1 hab2 hab3 hab4 hab5 hab6
      all_goals refine st ?_
      all_goals
      refine Tri.cond rfl (fun h72 => ?_) (fun h72 => ?_)
      ·try (cases h72; done)
       all_goals (try simp only [CQ] at h72)
       all_goals
       refine sY [4, 5] (fun P S K => K ⟨[(4, (.atom (.slice none 0 0))), (5, (.atom (.int .i64 1)))], S.hp, S.nx, S.gh⟩) ?_
       refine Tri.asSl 4 1 rfl ?_
       all_goals
       refine Tri.ret ?_
       show ResOk _ _ _ _
       have hb : badPair c i (lp ps i) = true := by rw [hxe]; unfold badPair; simp_all; try omega
       rw [(loads_pair hv (by omega) hil hb).1, (loads_pair hv (by omega) hil hb).2]
       exact ResOk.frz 5 lstB23 lpvB20
      ·try (cases h72; done)
       all_goals (try simp only [CQ] at h72)
       all_goals
       refine Tri.skip ?_
       have hx0 : 0 ≤ x1 ∧ x1 < x2 ∧ x2 < c.people := by omega
       have hrg := li_rng (loadsG_rng (c := c) (fun x hx => by have := hG.size x hx; omega) ps i) (by omega)
       have hsz := li_rng (m := 0) (M := 1024) (fun x hx => by have := hG.size x hx; omega) (by omega) i
       have hil2 : i < c.sizes.length := by omega
       have hra := hrg x1.toNat
       refine sD 12 [2, 7, 8, 9, 10, 27, 28, 29] (fun P GD S K => XvIndexAddr P 67 (S.get 10) (.atom (.int .i64 0)) (fun r1 ef1 => XvLoad P 3 (M S.hp S.nx) r1 (fun r2 ef2 => XvIndexAddr P 22 (S.get 8) r2 (fun r3 ef3 => XvLoad P 3 (M S.hp S.nx) r3 (fun r4 ef4 => XvFieldAddr P 38 0 (S.get 2) (fun r5 ef5 => XvLoad P 22 (M S.hp S.nx) r5 (fun r6 ef6 => XvIndexAddr P 22 r6 (S.get 9) (fun r8 ef8 => XvLoad P 3 (M S.hp S.nx) r8 (fun r9 ef9 => XvBinOV P .add 3 (.tmp 82) r4 r9 (fun r10 ef10 => XvIndexAddr P 22 (S.get 8) r2 (fun r11 ef11 => (trOk S.nx GD [⟨S.nx, 0, [], [], []⟩, ⟨S.nx, 0, ef1.rd, [], []⟩, ⟨S.nx, 0, ef2.rd, [], []⟩, ⟨S.nx, 0, ef3.rd, [], []⟩, ⟨S.nx, 0, ef4.rd, [], []⟩, ⟨S.nx, 0, ef5.rd, [], []⟩, ⟨S.nx, 0, ef6.rd, [], []⟩, ⟨S.nx, 0, [], [], []⟩, ⟨S.nx, 0, ef8.rd, [], []⟩, ⟨S.nx, 0, ef9.rd, [], []⟩, ⟨S.nx, 0, ef10.rd, [], []⟩, ⟨S.nx, 0, ef11.rd, [], []⟩] = true ∧ XvStore P 3 (M S.hp S.nx) r11 r10 (fun r12 ef12 => K ⟨[(2, S.get 2), (7, S.get 7), (8, S.get 8), (9, S.get 9), (10, S.get 10), (27, S.get 27), (28, S.get 28), (29, S.get 29)], (Eff.hp ef12 S.nx S.hp), (S.nx + ef12.add.length), S.gh⟩))))))))))))) fun K hK => ?_
       repeat' (first | (refine hK _ ?_; clear hK K) | (refine (?_ : trOk _ _ _ = true); kernel_rfl) | refine And.intro ?_ ?_ | exact cl | (refine st ?_; try simp only [encC, pairs, encP, getD_encI hil2, getD_encI (show x1.toNat < (loadsG c ps i).length by omega), wrap_id (x := li (loadsG c ps i) x1.toNat + li c.sizes i) (by omega) (by omega), hlg]) | simp only [encC, pairs, encP, getD_encI hil2, getD_encI (show x1.toNat < (loadsG c ps i).length by omega), wrap_id (x := li (loadsG c ps i) x1.toNat + li c.sizes i) (by omega) (by omega), hlg])
       all_goals try simp (disch := omega) only [wrap_id, wrap8_id]
       rw [addAt_enc]
       have hlg2 : (addAt (loadsG c ps i) x1 (li c.sizes i)).length = c.people.toNat := by rw [addAt_len, hlg]
       have hrb := li_rng (addAt_rng (k := x1) (v := li c.sizes i) (m := 2048 * (i : Int)) (M := 2048 * (i : Int) + 1024) (loadsG_rng (c := c) (fun x hx => by have := hG.size x hx; omega) ps i) (by omega) (by omega)) (by omega) x2.toNat
       all_goals
       refine rD 12 [2, 7, 8, 27, 28, 29] (fun P GD S K => XvIndexAddr P 67 (S.get 10) (.atom (.int .i64 1)) (fun r1 ef1 => XvLoad P 3 (M S.hp S.nx) r1 (fun r2 ef2 => XvIndexAddr P 22 (S.get 8) r2 (fun r3 ef3 => XvLoad P 3 (M S.hp S.nx) r3 (fun r4 ef4 => XvFieldAddr P 38 0 (S.get 2) (fun r5 ef5 => XvLoad P 22 (M S.hp S.nx) r5 (fun r6 ef6 => XvIndexAddr P 22 r6 (S.get 9) (fun r8 ef8 => XvLoad P 3 (M S.hp S.nx) r8 (fun r9 ef9 => XvBinOV P .add 3 (.tmp 94) r4 r9 (fun r10 ef10 => XvIndexAddr P 22 (S.get 8) r2 (fun r11 ef11 => (trOk S.nx GD [⟨S.nx, 0, [], [], []⟩, ⟨S.nx, 0, ef1.rd, [], []⟩, ⟨S.nx, 0, ef2.rd, [], []⟩, ⟨S.nx, 0, ef3.rd, [], []⟩, ⟨S.nx, 0, ef4.rd, [], []⟩, ⟨S.nx, 0, ef5.rd, [], []⟩, ⟨S.nx, 0, ef6.rd, [], []⟩, ⟨S.nx, 0, [], [], []⟩, ⟨S.nx, 0, ef8.rd, [], []⟩, ⟨S.nx, 0, ef9.rd, [], []⟩, ⟨S.nx, 0, ef10.rd, [], []⟩, ⟨S.nx, 0, ef11.rd, [], []⟩] = true ∧ XvStore P 3 (M S.hp S.nx) r11 r10 (fun r12 ef12 => K ⟨[(2, S.get 2), (7, S.get 7), (8, S.get 8), (27, S.get 27), (28, S.get 28), (29, S.get 29)], (Eff.hp ef12 S.nx S.hp), (S.nx + ef12.add.length), S.gh⟩))))))))))))) fun K hK => ?_
       repeat' (first | (refine hK _ ?_; clear hK K) | (refine (?_ : trOk _ _ _ = true); kernel_rfl) | refine And.intro ?_ ?_ | exact cl | (refine st ?_; try simp only [encC, pairs, encP, getD_encI hil2, getD_encI (show x2.toNat < (addAt (loadsG c ps i) x1 (li c.sizes i)).length by omega), wrap_id (x := li (addAt (loadsG c ps i) x1 (li c.sizes i)) x2.toNat + li c.sizes i) (by omega) (by omega), hlg2]) | simp only [encC, pairs, encP, getD_encI hil2, getD_encI (show x2.toNat < (addAt (loadsG c ps i) x1 (li c.sizes i)).length by omega), wrap_id (x := li (addAt (loadsG c ps i) x1 (li c.sizes i)) x2.toNat + li c.sizes i) (by omega) (by omega), hlg2])
       all_goals try simp (disch := omega) only [wrap_id, wrap8_id]
       rw [addAt_enc]
       all_goals
       refine rY [2, 7, 8, 27, 28, 29] (fun P S K => XvBinOV P .add 3 (.const (.int .i64 1)) (S.get 29) (.atom (.int .i64 1)) (fun r0 _ => K ⟨[(2, S.get 2), (7, S.get 7), (8, S.get 8), (27, S.get 27), (28, S.get 28), (29, r0)], S.hp, S.nx, S.gh⟩)) ?_
       all_goals try simp (disch := omega) only [wrap_id, wrap8_id]
       all_goals
       refine ⟨⟨i + 1, by omega, fun j hj => ?_⟩, [0, 1], by dsimp only; omega, ?_⟩
       · rcases Nat.lt_succ_iff_lt_or_eq.1 hj with hj | rfl
         · exact hnb j hj
         · rw [hxe]; unfold badPair; subst ho1; subst ho2; simp_all; try omega
       · dsimp only
         rw [show loadsG c ps (i + 1) = addAt (addAt (loadsG c ps i) x1 (li c.sizes i)) x2 (li c.sizes i) by rw [loadsG, loadStep, hxe]]
         exact leqB21
     ·try (cases h30; done)
      all_goals (try simp only [CQ] at h30)
      all_goals
      refine Tri.exit ?_
      have hie : i = ps.length := by omega
      subst hie
      refine sY [4, 5] (fun P S K => K ⟨[(4, (S.get 8)), (5, (.atom (.int .i64 0)))], S.hp, S.nx, S.gh⟩) ?_
      all_goals
      refine Tri.ret ?_
      show ResOk _ _ _ _
      rw [(loads_ok hv (by omega) hnb).1, (loads_ok hv (by omega) hnb).2, show PV.ob 1 1 0 c.people.toNat = PV.ob 1 1 0 (loadsG c ps ps.length).length by rw [loadsG_len]]
      exact ResOk.frz 5 lstB23 lpvB20
theorem mask_low (f : Nat → Bool) {n : Nat} (h : n ≤ 6) : maskN f n = maskN (fun q => f q && decide (q < n)) 6 := by
  have hall : ∀ (a b c d e g : Bool) (n : Fin 7), maskN (fnB a b c d e g) n.1 = maskN (fun q => fnB a b c d e g q && decide (q < n.1)) 6 := by decide +kernel
  have := hall (f 0) (f 1) (f 2) (f 3) (f 4) (f 5) ⟨n, by omega⟩
  rw [mask_six f h, this]
  exact maskN_congr 6 fun q hq => by rw [← fnB_of f hq]
theorem mask_without6 (a b c d e g a' b' c' d' e' g' : Bool) : bits .andNot .u64 (maskN (fnB a b c d e g) 6 : Int) (maskN (fnB a' b' c' d' e' g') 6 : Int) = (maskN (fun q => !fnB a' b' c' d' e' g' q && fnB a b c d e g q) 6 : Int) := by
  revert a b c d e g a' b' c' d' e' g'; decide +kernel
theorem mask_without (f g : Nat → Bool) {n : Nat} (h : n ≤ 6) : bits .andNot .u64 (maskN f n : Int) (maskN g n : Int) = (maskN (fun q => !g q && f q) n : Int) := by
  rw [mask_low f h, mask_low g h, mask_low _ h, mask_six _ (Nat.le_refl 6), mask_six (fun q => g q && decide (q < n)) (Nat.le_refl 6), mask_without6]
  congr 1
  refine maskN_congr 6 fun q hq => ?_
  rw [← fnB_of (fun q => g q && decide (q < n)) hq, ← fnB_of (fun q => f q && decide (q < n)) hq]
  cases g q <;> cases f q <;> cases decide (q < n) <;> rfl
def inN (people : List Int) : Nat → Bool := fun q => people.contains (q : Int)
theorem inc_lt {l : List Int} {n : Int} (h : IncP l n) : ∀ k j, k < l.length → j < k → li l j < li l k
  | 0, j, _, hj => absurd hj (Nat.not_lt_zero _)
  | k + 1, j, hk, hj => by
    have hs := (h (k + 1) hk).2.2 (Nat.succ_pos k)
    rw [show (((k + 1 : Nat) : Int) - 1).toNat = k by omega] at hs
    rcases Nat.lt_succ_iff_lt_or_eq.1 hj with hj | rfl
    · exact Int.lt_trans (inc_lt h k j (by omega) hj) hs
    · exact hs
theorem inc_pair {l : List Int} {n : Int} (h : incB l n = true) : l.Pairwise (· < ·) := by
  have hp : IncP l n := @of_decide_eq_true _ (Classical.propDecidable _) h
  rw [List.pairwise_iff_getElem]
  intro i j hi hj hij
  have := inc_lt hp j i hj hij
  simpa [li, List.getD_eq_getElem?_getD, hi, hj] using this
theorem in_count {l : List Int} {n : Nat} (h : incB l n = true) : ((List.range n).filter (inN l)).length = l.length := by
  have hA : (((List.range n).filter (inN l)).map (fun q : Nat => (q : Int))).Pairwise (· < ·) :=
    List.Pairwise.map _ (fun a b (hab : a < b) => by omega) (List.Pairwise.filter _ List.pairwise_lt_range)
  have hn1 := hA.imp (S := fun a b => a ≠ b) (fun h => by omega)
  have hn2 := (inc_pair h).imp (S := fun a b => a ≠ b) (fun h => by omega)
  have h1 := List.Nodup.length_le_of_subset (l₂ := l) hn1 (fun x hx => by
    obtain ⟨q, hq, rfl⟩ := List.mem_map.1 hx
    have := (List.mem_filter.1 hq).2
    simpa [inN] using this)
  have h2 := List.Nodup.length_le_of_subset (l₂ := ((List.range n).filter (inN l)).map (fun q : Nat => (q : Int))) hn2 (fun x hx => by
    have hr := incB_mem h x hx
    refine List.mem_map.2 ⟨x.toNat, List.mem_filter.2 ⟨List.mem_range.2 (by omega), ?_⟩, by omega⟩
    unfold inN
    rw [show ((x.toNat : Nat) : Int) = x by omega]
    simpa using hx)
  rw [List.length_map] at h1 h2
  omega
theorem shut_mask (c : CaseD) (i : Int) (people : List Int) (h : c.people.toNat ≤ 6) : popc (maskN (fun q => !inN people q && openB c i q) c.people.toNat) = shutN c i people c.people.toNat := by
  rw [mask_popc _ h]; rfl
theorem mask64 (f : Nat → Bool) {n : Nat} (h : n ≤ 6) : maskN f n < 64 := Nat.lt_of_lt_of_le (maskN_lt f n) (Nat.pow_le_pow_right (by omega) h)
theorem aCounted_pure (c : CaseD) (hG : Good c) (hbl : c.bars.length ≤ 1000000) (ts people : List Int) (hm : ∀ x, x ∈ ts → 0 ≤ x ∧ x < c.sizes.length) (hs : ts.length ≤ 1000000) (hB : incB people c.people = true) (hp : 0 < people.length) : Pure Try.prog 55 [encC c, ints ts, encN (maskN (inN people) c.people.toNat)] (encI (countedS c ts people)) [] := by
  have hmany := hG.many
  have hlo := hG.lo
  have hhi := hG.hi
  have hpn : ((List.range c.people.toNat).filter (inN people)).length = people.length := in_count (by rw [show ((c.people.toNat : Nat) : Int) = c.people by omega]; exact hB)
  have hpl : people.length ≤ 6 := by
    have := List.length_filter_le (inN people) (List.range c.people.toNat)
    rw [hpn, List.length_range] at this; omega
  have hO := ones_pure (mask64 (inN people) (show c.people.toNat ≤ 6 by omega))
  rw [mask_popc _ (show c.people.toNat ≤ 6 by omega), hpn] at hO
  refine Pure.intro (ts := [6]) Try.func55 (by kernel_rfl) rfl rfl rfl (Nat.le_of_ble_eq_true rfl) ?_ ?_
  · simp [pure_case, pure_ints, encI, encN, PV.pure, pureL]
  refine sZ [1, 2, 3] (fun P S K => XvBox S.nx (S.get 0) (fun r0 ef0 => K ⟨[(1, S.get 1), (2, S.get 2), (3, r0)], (Eff.hp ef0 S.nx S.hp), (S.nx + ef0.add.length), S.gh⟩)) fun K hK => ?_
  repeat' (first | (refine hK _ ?_; clear hK K) | refine And.intro ?_ ?_ | exact cl | (refine st ?_; try simp only [encC, pairs]) | simp only [encC, pairs])
  all_goals
  refine sZ [1, 2, 3, 7] (fun P S K => XvLoad P 38 (M S.hp S.nx) (S.get 3) (fun r0 _ => XvFnIV P (M S.hp S.nx) (.fn 46 []) [r0] (fun r1 ef1 => K ⟨[(1, S.get 1), (2, S.get 2), (3, S.get 3), (7, r1)], (Eff.hp ef1 S.nx S.hp), (S.nx + ef1.add.length), S.gh⟩))) fun K hK => ?_
  repeat' (first | (refine hK _ ?_; clear hK K) | refine And.intro ?_ ?_ | exact cl | refine .inl ⟨_, _, open_pure c hG.five (by omega), ?_⟩ | refine .inl ⟨_, _, hOi, ?_⟩ | refine .inl ⟨_, _, hO, ?_⟩ | (refine st ?_; try simp only [encC, pairs]) | simp only [encC, pairs])
  all_goals
  refine sY [1, 2, 3, 7, 8] (fun P S K => K ⟨[(1, S.get 1), (2, S.get 2), (3, S.get 3), (7, S.get 7), (8, (.atom (.int .i64 0)))], S.hp, S.nx, S.gh⟩) ?_
  all_goals
  refine Tri.seq ?_
  refine sZ [2, 3, 7, 8, 14, 15, 16] (fun P S K => XvLen P 22 (S.get 1) (fun r1 _ => K ⟨[(2, S.get 2), (3, S.get 3), (7, S.get 7), (8, S.get 8), (14, (S.get 1)), (15, r1), (16, (.atom (.int .i64 0)))], S.hp, S.nx, S.gh⟩)) fun K hK => ?_
  repeat' (first | (refine hK _ ?_; clear hK K) | refine And.intro ?_ ?_ | exact cl | (refine st ?_; try simp only [encC, pairs]) | simp only [encC, pairs])
  all_goals
  refine Tri.block ?_
  refine Tri.loop (α := (k : Nat) ×' (k ≤ ts.length)) (fun z => (fun (k : Nat) => (⟨[(2, encN (maskN (inN people) c.people.toNat)), (3, .ptr 0 3 0 0), (7, nats (opens c)), (8, encI (sumK c ts people k)), (14, ints ts), (15, encI ts.length), (16, encI k)], [(0, some ⟨3, [encC c]⟩)], 1, []⟩ : St)) z.1) (fun z => (fun (k : Nat) => ts.length - k) z.1) ⟨0, Nat.zero_le _⟩ [0] ?_ ?_
  ·exact leqB21
  ·rintro ⟨k, hk⟩
   have hrg := sumK_rng hG ts people k hk
   refine sY [2, 3, 7, 8, 14, 15, 16, 17] (fun P S K => XvBinOV P .lss 3 (.tmp 15) (S.get 16) (S.get 15) (fun r0 _ => K ⟨[(2, S.get 2), (3, S.get 3), (7, S.get 7), (8, S.get 8), (14, S.get 14), (15, S.get 15), (16, S.get 16), (17, r0)], S.hp, S.nx, S.gh⟩)) ?_
   all_goals
   refine Tri.seq ?_
   refine Tri.cond rfl (fun h17 => ?_) (fun h17 => ?_)
   ·try (cases h17; done)
    all_goals (try simp only [CQ] at h17)
    all_goals
    refine Tri.skip ?_
    refine Tri.seq ?_
    refine Tri.block ?_
    have hkl : k < ts.length := by omega
    have hin := hm _ (li_mem hkl)
    have hsz := li_rng (l := c.sizes) (m := 0) (M := 1024) (fun x hx => by have := hG.size x hx; omega) (by omega) (li ts k).toNat
    have hpr := prod_rng hsz (needS_rng c (li ts k) people)
    have hog := opens_get (c := c) (i := (li ts k).toNat) (by omega)
    have hol : (opens c).length = c.sizes.length := opens_len _
    rw [show (((li ts k).toNat : Nat) : Int) = li ts k by omega] at hog
    have hmw := mask_without (fun (p : Nat) => openB c (li ts k) p) (inN people) (show c.people.toNat ≤ 6 by omega)
    have hOi := ones_pure (mask64 (fun q => !inN people q && openB c (li ts k) q) (show c.people.toNat ≤ 6 by omega))
    rw [shut_mask c (li ts k) people (by omega)] at hOi
    have hne := needS_open c (li ts k) people
    have hshn := shutN_le c (li ts k) people c.people.toNat
    generalize maskN (fun q => !inN people q && openB c (li ts k) q) c.people.toNat = mk at hmw hOi
    generalize hsh : shutN c (li ts k) people c.people.toNat = sn at hne hshn hOi
    have hmx : max (0 : Int) (2 - (sn : Int)) = needS c (li ts k) people := by rw [hne]; omega
    refine sZ [2, 3, 7, 8, 10, 14, 15, 16] (fun P S K => XvIndexAddr P 22 (S.get 14) (S.get 16) (fun r0 _ => XvLoad P 3 (M S.hp S.nx) r0 (fun r1 _ => K ⟨[(2, S.get 2), (3, S.get 3), (7, S.get 7), (8, S.get 8), (10, r1), (14, S.get 14), (15, S.get 15), (16, S.get 16)], S.hp, S.nx, S.gh⟩))) fun K hK => ?_
    repeat' (first | (refine hK _ ?_; clear hK K) | refine And.intro ?_ ?_ | exact cl | (refine st ?_; try simp only [encC, pairs, getD_encI hkl]) | simp only [encC, pairs, getD_encI hkl])
    all_goals
    refine rD 18 [2, 3, 7, 8, 14, 15, 16] (fun P GD S K => XvFieldAddr P 38 0 (S.get 3) (fun r1 ef1 => XvLoad P 22 (M S.hp S.nx) r1 (fun r2 ef2 => XvIndexAddr P 22 r2 (S.get 10) (fun r4 ef4 => XvLoad P 3 (M S.hp S.nx) r4 (fun r5 ef5 => XvIndexAddr P 82 (S.get 7) (S.get 10) (fun r8 ef8 => XvLoad P 83 (M S.hp S.nx) r8 (fun r9 ef9 => XvBinOV P .andNot 83 (.tmp 30) r9 (S.get 2) (fun r11 ef11 => XvFnV P (M S.hp S.nx) (.fn 48 []) [r11] (fun r12 ef12 => XvBinOV P .sub 3 (.tmp 32) (.atom (.int .i64 2)) r12 (fun r13 ef13 => XvMinMax true (.atom (.int .i64 0)) r13 (fun r14 ef14 => XvBinOV P .mul 3 (.tmp 34) r5 r14 (fun r15 ef15 => XvBinOV P .add 3 (.tmp 35) (S.get 8) r15 (fun r16 ef16 => (trOk S.nx GD [⟨S.nx, 0, [], [], []⟩, ⟨S.nx, 0, ef1.rd, [], []⟩, ⟨S.nx, 0, ef2.rd, [], []⟩, ⟨S.nx, 0, [], [], []⟩, ⟨S.nx, 0, ef4.rd, [], []⟩, ⟨S.nx, 0, ef5.rd, [], []⟩, ⟨S.nx, 0, [], [], []⟩, ⟨S.nx, 0, [], [], []⟩, ⟨S.nx, 0, ef8.rd, [], []⟩, ⟨S.nx, 0, ef9.rd, [], []⟩, ⟨S.nx, 0, [], [], []⟩, ⟨S.nx, 0, ef11.rd, [], []⟩, (Eff.tr ef12 S.nx), ⟨(S.nx + ef12.add.length), 0, ef13.rd, [], []⟩, ⟨(S.nx + ef12.add.length), 0, ef14.rd, [], []⟩, ⟨(S.nx + ef12.add.length), 0, ef15.rd, [], []⟩, ⟨(S.nx + ef12.add.length), 0, ef16.rd, [], []⟩, ⟨(S.nx + ef12.add.length), 0, [], [], []⟩] = true ∧ K ⟨[(2, S.get 2), (3, S.get 3), (7, S.get 7), (8, r16), (14, S.get 14), (15, S.get 15), (16, S.get 16)], (Eff.hp ef12 S.nx S.hp), (S.nx + ef12.add.length), S.gh⟩)))))))))))))) fun K hK => ?_
    repeat' (first | (refine hK _ ?_; clear hK K) | (refine (?_ : trOk _ _ _ = true); kernel_rfl) | ((first | refine xG_intro (fun hg => ?_) (fun hg => ?_) | refine fun (hg : (_ : Prop)) => ?_) <;> ((try simp only [BQ] at hg); try (exfalso; omega))) | refine And.intro ?_ ?_ | exact cl | refine one_take ?_ _ | refine one_drop ?_ _ | refine .inl ⟨_, _, hOi, ?_⟩ | refine ⟨_, _, hOi, ?_⟩ | refine .inl ⟨_, _, hO, ?_⟩ | refine ⟨_, _, hO, ?_⟩ | (refine st ?_; try simp only [encC, pairs, nats, getD_encI hkl, getD_encI (show (li ts k).toNat < c.sizes.length by omega), getD_encN (show (li ts k).toNat < (opens c).length by omega), hog, encN, hmw]) | simp only [encC, pairs, nats, getD_encI hkl, getD_encI (show (li ts k).toNat < c.sizes.length by omega), getD_encN (show (li ts k).toNat < (opens c).length by omega), hog, encN, hmw])
    all_goals try simp (disch := omega) only [wrap_id, wrap8_id]
    rw [hmx, wrap_id (x := li c.sizes (li ts k).toNat * needS c (li ts k) people) (by omega) (by omega), wrap_id (x := sumK c ts people k + li c.sizes (li ts k).toNat * needS c (li ts k) people) (by omega) (by omega)]
    all_goals
    refine rY [2, 3, 7, 8, 14, 15, 16] (fun P S K => XvBinOV P .add 3 (.const (.int .i64 1)) (S.get 16) (.atom (.int .i64 1)) (fun r0 _ => K ⟨[(2, S.get 2), (3, S.get 3), (7, S.get 7), (8, S.get 8), (14, S.get 14), (15, S.get 15), (16, r0)], S.hp, S.nx, S.gh⟩)) ?_
    all_goals try simp (disch := omega) only [wrap_id, wrap8_id]
    all_goals
    refine ⟨⟨k + 1, by omega⟩, [0], by dsimp only; omega, ?_⟩
    dsimp only
    rw [sumK_succ c ts people (by omega)]
    exact leqB21
   ·try (cases h17; done)
    all_goals (try simp only [CQ] at h17)
    all_goals
    refine Tri.exit ?_
    have hke : k = ts.length := by omega
    subst hke
    rw [sumK_all] at *
    have hq0 : 0 ≤ countedS c ts people := Int.tdiv_nonneg (by omega) (by omega)
    have hq1 : countedS c ts people ≤ sumS c ts people + people.length - 1 := Int.tdiv_le_self _ (by omega)
    have hq : (sumS c ts people + people.length - 1).tdiv people.length = countedS c ts people := rfl
    refine sZ [8, 11] (fun P S K => XvFnIV P (M S.hp S.nx) (.fn 48 []) [(S.get 2)] (fun r1 ef1 => K ⟨[(8, S.get 8), (11, r1)], (Eff.hp ef1 S.nx S.hp), (S.nx + ef1.add.length), S.gh⟩)) fun K hK => ?_
    repeat' (first | (refine hK _ ?_; clear hK K) | refine And.intro ?_ ?_ | exact cl | refine .inl ⟨_, _, hOi, ?_⟩ | refine .inl ⟨_, _, hO, ?_⟩ | (refine st ?_; try simp only [encC, pairs]) | simp only [encC, pairs])
    all_goals
    refine sZ [6] (fun P S K => XvBinOV P .add 3 (.tmp 41) (S.get 8) (S.get 11) (fun r2 _ => XvBinOV P .sub 3 (.const (.int .i64 1)) r2 (.atom (.int .i64 1)) (fun r3 _ => XvBinOV P .quo 3 (.tmp 44) r3 (S.get 11) (fun r5 _ => K ⟨[(6, r5)], S.hp, S.nx, S.gh⟩)))) fun K hK => ?_
    repeat' (first | (refine hK _ ?_; clear hK K) | ((first | refine xG_intro (fun hg => ?_) (fun hg => ?_) | refine fun (hg : (_ : Prop)) => ?_) <;> ((try simp only [BQ] at hg); try (exfalso; omega))) | refine And.intro ?_ ?_ | exact cl | refine one_take ?_ _ | refine one_drop ?_ _ | (refine st ?_; try simp only [encC, pairs, hq]) | simp only [encC, pairs, hq])
    all_goals try simp (disch := omega) only [wrap_id, wrap8_id]
    all_goals
    refine Tri.ret ?_
    show ResOk _ _ _ _
    exact ResOk.val lsrB22 lpvB20
def sP (s : Int) (people : List Int) (p : Int × Int) : Int := (if p.1 ∈ people then s else 0) + if p.2 ∈ people then s else 0
def sumL (loads : List Int) : List Int → Int
  | [] => 0
  | x :: r => li loads x.toNat + sumL loads r
theorem shutN_mono {c : CaseD} {i : Int} {people : List Int} {a : Nat} : ∀ {b : Nat}, a ≤ b → shutN c i people a ≤ shutN c i people b
  | 0, h => by rw [Nat.le_zero.1 h]; exact Nat.le_refl _
  | b + 1, h => by
    rcases Nat.lt_or_ge b a with g | g
    · rw [show a = b + 1 by omega]; exact Nat.le_refl _
    · have := shutN_mono (c := c) (i := i) (people := people) g
      have := shutN_succ c i people b
      omega
theorem shutN_one {c : CaseD} {i : Int} {people : List Int} {a k : Nat} (h : a < k) (hq : (a : Int) ∉ people) (ho : openB c i a = true) : shutN c i people a + 1 ≤ shutN c i people k := by
  have h1 := shutN_succ c i people a
  rw [if_pos (by simp [hq, ho])] at h1
  have := shutN_mono (c := c) (i := i) (people := people) (show a + 1 ≤ k by omega)
  omega
theorem need_sP {c : CaseD} (h2 : 0 ≤ c.people) {i : Int} {people : List Int} {p : Int × Int} (h : p ∈ pairsOf c i) {s : Int} (hs : 0 ≤ s) : s * needS c i people ≤ sP s people p := by
  obtain ⟨g0, g1, g2, o1, o2⟩ := pairsOf_mem h2 h
  obtain ⟨x, y⟩ := p
  simp only at *
  obtain ⟨a, rfl⟩ : ∃ a : Nat, x = a := ⟨x.toNat, by omega⟩
  obtain ⟨b, rfl⟩ : ∃ b : Nat, y = b := ⟨y.toNat, by omega⟩
  have k1 := fun hq => shutN_one (c := c) (i := i) (people := people) (a := a) (k := b) (by omega) hq o1
  have k2 := fun hq => shutN_one (c := c) (i := i) (people := people) (a := b) (k := c.people.toNat) (by omega) hq o2
  have k3 := fun hq => shutN_one (c := c) (i := i) (people := people) (a := a) (k := c.people.toNat) (by omega) hq o1
  have hn := needS_open c i people
  have hr := needS_rng c i people
  unfold sP
  simp only
  have h012 : needS c i people = 0 ∨ needS c i people = 1 ∨ needS c i people = 2 := by omega
  by_cases m1 : (a : Int) ∈ people <;> by_cases m2 : (b : Int) ∈ people
  · rw [if_pos m1, if_pos m2]; rcases h012 with e | e | e <;> rw [e] <;> omega
  · rw [if_pos m1, if_neg m2]; have := k2 m2; rcases h012 with e | e | e <;> rw [e] <;> omega
  · rw [if_neg m1, if_pos m2]; have := k3 m1; rcases h012 with e | e | e <;> rw [e] <;> omega
  · rw [if_neg m1, if_neg m2]; have := k2 m2; have := k1 m1; rcases h012 with e | e | e <;> rw [e] <;> omega
theorem sumL_step {c : CaseD} {loads : List Int} {i : Nat} {p : Int × Int} (hp : 0 ≤ p.1 ∧ p.1 < p.2) : ∀ {people : List Int}, (∀ x, x ∈ people → 0 ≤ x ∧ x < loads.length) → people.Pairwise (· < ·) → sumL (loadStep c loads i p) people = sumL loads people + sP (li c.sizes i) people p
  | [], _, _ => by simp [sumL, sP]
  | x :: r, hI, hP => by
    obtain ⟨q1, q2⟩ := List.pairwise_cons.1 hP
    have ih := sumL_step (c := c) (loads := loads) (i := i) hp (people := r) (fun y hy => hI y (List.mem_cons_of_mem _ hy)) q2
    have hx := hI x (List.mem_cons_self ..)
    have n1 : ∀ y : Int, y = x → y ∉ r := fun y hy hm => by have := q1 y hm; omega
    rw [sumL, sumL, ih, li_loadStep c loads i p (by omega)]
    unfold sP
    simp only [List.mem_cons]
    by_cases e1 : p.1 = x
    · have := n1 p.1 e1
      have e2 : ¬ p.2 = x := by omega
      rw [if_pos (show x.toNat = p.1.toNat by omega), if_neg (show ¬ x.toNat = p.2.toNat by omega), if_neg this, if_pos (Or.inl e1)]
      by_cases m : p.2 ∈ r
      · rw [if_pos m, if_pos (Or.inr m)]; omega
      · rw [if_neg m, if_neg (by simp [e2, m])]; omega
    · by_cases e2 : p.2 = x
      · have := n1 p.2 e2
        rw [if_neg (show ¬ x.toNat = p.1.toNat by omega), if_pos (show x.toNat = p.2.toNat by omega), if_neg this, if_pos (Or.inl e2)]
        by_cases m : p.1 ∈ r
        · rw [if_pos m, if_pos (Or.inr m)]; omega
        · rw [if_neg m, if_neg (by simp [e1, m])]; omega
      · rw [if_neg (show ¬ x.toNat = p.1.toNat by omega), if_neg (show ¬ x.toNat = p.2.toNat by omega)]
        simp only [e1, e2, false_or]; omega
def sumF (f : Nat → Int) : Nat → Int
  | 0 => 0
  | k + 1 => sumF f k + f k
theorem sumF_mono {f : Nat → Int} (hf : ∀ j, 0 ≤ f j) {a : Nat} : ∀ {b : Nat}, a ≤ b → sumF f a ≤ sumF f b
  | 0, h => by rw [Nat.le_zero.1 h]; exact Int.le_refl _
  | b + 1, h => by
    rcases Nat.lt_or_ge b a with g | g
    · rw [show a = b + 1 by omega]; exact Int.le_refl _
    · have := sumF_mono hf g
      have := hf b
      rw [sumF]; omega
def sumW (g : Int → Int) : List Int → Int
  | [] => 0
  | x :: r => g x + sumW g r
theorem foldl_sumW (g : Int → Int) : ∀ (l : List Int) (a : Int), l.foldl (fun n i => n + g i) a = a + sumW g l
  | [], a => by simp [sumW]
  | x :: r, a => by rw [List.foldl_cons, foldl_sumW g r, sumW]; omega
theorem sumS_W (c : CaseD) (xs people : List Int) : sumS c xs people = sumW (fun i => li c.sizes i.toNat * needS c i people) xs := by
  unfold sumS; rw [foldl_sumW, Int.zero_add]
theorem sumW_le {g : Int → Int} {f : Nat → Int} (hf : ∀ j, 0 ≤ f j) {n : Nat} : ∀ (l : List Int) (a : Nat), a ≤ n → l.Pairwise (· < ·) → (∀ x, x ∈ l → (a : Int) ≤ x ∧ x < n ∧ g x ≤ f x.toNat) → sumW g l + sumF f a ≤ sumF f n
  | [], a, ha, _, _ => by rw [sumW, Int.zero_add]; exact sumF_mono hf ha
  | x :: r, a, ha, hP, hl => by
    obtain ⟨q1, q2⟩ := List.pairwise_cons.1 hP
    have hx := hl x (List.mem_cons_self ..)
    have ih := sumW_le (g := g) (n := n) hf r (x.toNat + 1) (by omega) q2 fun y hy => by
      have := q1 y hy
      have := hl y (List.mem_cons_of_mem _ hy)
      exact ⟨by omega, this.2⟩
    have hm := sumF_mono hf (show a ≤ x.toNat by omega)
    rw [sumF] at ih
    rw [sumW]; omega
theorem sumL_zero (n : Nat) : ∀ people : List Int, sumL (List.replicate n 0) people = 0
  | [] => rfl
  | x :: r => by
    rw [sumL, sumL_zero n r]
    unfold li
    rw [List.getD_eq_getElem?_getD, List.getElem?_replicate]
    split <;> rfl
theorem sumL_le {loads : List Int} : ∀ {people : List Int}, (∀ x, x ∈ people → 0 ≤ x ∧ x < loads.length) → sumL loads people ≤ people.length * greatest loads
  | [], _ => by simp [sumL]
  | x :: r, h => by
    have ih := sumL_le (loads := loads) (people := r) fun y hy => h y (List.mem_cons_of_mem _ hy)
    have hx := h x (List.mem_cons_self ..)
    have := le_greatest (li_mem (l := loads) (show x.toNat < loads.length by omega))
    rw [sumL, List.length_cons, Int.natCast_add, Int.add_mul]
    omega
theorem sumL_G {c : CaseD} {ps : List (Int × Int)} (hG : Good c) {people : List Int} (hI : ∀ x, x ∈ people → 0 ≤ x ∧ x < c.people) (hP : people.Pairwise (· < ·)) (hp : ∀ j, j < c.sizes.length → lp ps j ∈ pairsOf c (j : Int)) : ∀ k, k ≤ c.sizes.length → sumL (loadsG c ps k) people = sumF (fun j => sP (li c.sizes j) people (lp ps j)) k
  | 0, _ => sumL_zero _ _
  | k + 1, hk => by
    have hlo := hG.lo
    have h1 := pairsOf_mem (by omega) (hp k (by omega))
    rw [loadsG, sumL_step ⟨h1.1, h1.2.1⟩ (fun x hx => by have := hI x hx; have := loadsG_len c ps k; omega) hP, sumL_G hG hI hP hp k (by omega), sumF]
theorem great_G {c : CaseD} {ps : List (Int × Int)} (hG : Good c) (k : Nat) : ∀ n, k ≤ n → greatest (loadsG c ps k) ≤ greatest (loadsG c ps n)
  | 0, h => by rw [Nat.le_zero.1 h]; exact Int.le_refl _
  | n + 1, h => by
    rcases Nat.lt_or_ge n k with g | g
    · rw [show k = n + 1 by omega]; exact Int.le_refl _
    · have h1 := great_G hG k n g (ps := ps)
      have h2 := greatest_step (c := c) (loads := loadsG c ps n) hG.pos n (lp ps n)
      rw [loadsG]; omega
theorem ceil_le {s G n : Int} (hn : 0 < n) (hs : 0 ≤ s) (h : s ≤ n * G) : (s + n - 1).tdiv n ≤ G := by
  rw [Int.tdiv_eq_ediv_of_nonneg (by omega)]
  refine Int.le_of_lt_add_one ((Int.ediv_lt_iff_lt_mul hn).2 ?_)
  rw [Int.add_mul, Int.mul_comm G n]; omega
theorem weak {c : CaseD} {ps : List (Int × Int)} {x : CertD} (hl : loadsE c ps = 0) (hb : boundE c x = 0) : boundN c x ≤ greatest (loadsR c ps) := by
  obtain ⟨hv, hlen, hf⟩ := loads_fits hl
  have hG := valid_good hv
  have hlo := hG.lo
  have hp : ∀ j, j < c.sizes.length → lp ps j ∈ pairsOf c (j : Int) := fun j hj => by
    have := fits_at hf (show j < ps.length by omega)
    rwa [Nat.zero_add] at this
  have e : loadsR c ps = loadsG c ps c.sizes.length := by unfold loadsR; rw [if_pos hl, hlen]
  rw [e, boundN_ok hb]
  have hw : ¬ wrongX c x = true := fun h => by rw [boundE_wrong hv h] at hb; cases hb
  have hA : incB x.some c.sizes.length = true := by
    cases h : incB x.some c.sizes.length
    · exact absurd (wrong_a h) hw
    · rfl
  have hB : incB x.people c.people = true := by
    cases h : incB x.people c.people
    · exact absurd (wrong_b h) hw
    · rfl
  rcases Nat.eq_zero_or_pos x.people.length with h0 | h0
  · have h1 : x.some.length = 1 := Classical.byContradiction fun h => hw (wrong_c h0 h)
    rw [val_none h0]
    have hm := incB_mem hA (li x.some 0) (li_mem (by omega))
    have hi : (li x.some 0).toNat < c.sizes.length := by omega
    generalize (li x.some 0).toNat = i at hi
    have hq := pairsOf_mem (by omega) (hp i hi)
    have hok : LoadOk c (loadsG c ps i) := ⟨loadsG_len c ps i, fun x hx => (loadsG_rng hG.rng ps i x hx).1⟩
    have h2 := (step_at hok hG.pos i ⟨hq.1, hq.2.1, hq.2.2.1⟩).1
    have h3 := great_G hG (i + 1) c.sizes.length (by omega) (ps := ps)
    have h4 : 0 ≤ li (loadsG c ps i) (lp ps i).1.toNat := (li_rng (l := loadsG c ps i) (m := 0) (M := 2048 * i) (fun x hx => loadsG_rng hG.rng ps i x hx) (by omega) _).1
    rw [loadsG] at h3
    omega
  · rw [val_some h0]
    have hI := incB_mem hB
    have hP := inc_pair hB
    have h1 := sumL_G hG hI hP hp c.sizes.length (Nat.le_refl _)
    have h2 := sumL_le (loads := loadsG c ps c.sizes.length) (people := x.people) fun y hy => by have := hI y hy; have := loadsG_len c ps c.sizes.length; omega
    have hz : ∀ j, 0 ≤ li c.sizes j := fun j => (li_rng (l := c.sizes) (m := 0) (M := 1024) (fun y hy => hG.rng y hy) (by omega) j).1
    have hsP : ∀ j, 0 ≤ sP (li c.sizes j) x.people (lp ps j) := fun j => by
      have := hz j
      unfold sP
      split <;> split <;> omega
    have h3 := sumW_le (g := fun i => li c.sizes i.toNat * needS c i x.people) (f := fun j => sP (li c.sizes j) x.people (lp ps j)) hsP (n := c.sizes.length) x.some 0 (Nat.zero_le _) (inc_pair hA) fun y hy => by
      have h4 := incB_mem hA y hy
      refine ⟨by omega, h4.2, ?_⟩
      have h5 := need_sP (people := x.people) (show 0 ≤ c.people by omega) (hp y.toNat (by omega)) (hz y.toNat)
      rw [Int.toNat_of_nonneg h4.1] at h5
      exact h5
    rw [← sumS_W, sumF] at h3
    have h5 : 0 ≤ sumS c x.some x.people := by
      have := (sumK_rng hG x.some x.people x.some.length (Nat.le_refl _)).1
      rwa [sumK_all] at this
    exact ceil_le (by omega) h5 (by omega)
end Go.Proofs.Ytcdeilgijleoaaa
