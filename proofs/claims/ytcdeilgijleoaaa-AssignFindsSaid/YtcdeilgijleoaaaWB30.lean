/-
  Walks: Loads of package assign.
-/
import Derived.Test.YtcdeilgijleoaaaWA1
import Derived.Test.YtcdeilgijleoaaaWB22
import Derived.Test.YtcdeilgijleoaaaWA5
set_option linter.all false
namespace Go.Proofs.Ytcdeilgijleoaaa
open Go Go.RowKit
set_option maxRecDepth 20000
set_option maxHeartbeats 1000000
theorem lstB23 {p : Prop} (h : p := by (first | rfl | (simp [St.born, St.known, retV, St.get, St.obj, lk, sealed, PV.ren, renL, rmap, AO.ren, ints, strs, encI, encS, map_sealed_encI, map_sealed_encS, map_sealed_ints, map_sealed_strs, map_ren_encI, map_ren_encS, map_ren_ints, map_ren_strs, renL_encI, renL_encS, renL_ints, renL_strs, ren_case, encC, pairs, renL_encP, map_sealed_encP, map_ren_encP, encP, take_map_len, renL_encN, map_sealed_encN, map_ren_encN, nats, take_map_len, List.take_length]; done)); first | done | fail) : p := h
theorem bit_open (c : CaseD) (i : Int) {p : Int} (h0 : 0 ≤ p) (h1 : p < c.people) (h2 : c.people ≤ 6) : decide (bits .and .u64 (((maskN (fun (p : Nat) => openB c i p) c.people.toNat : Nat) : Int).fdiv (2 ^ min p.toNat IntKind.u64.bits)) 1 = 0) = !openB c i p := by
  have := mask_bit (fun (p : Nat) => openB c i p) (n := c.people.toNat) (p := p.toNat) (by omega) (by omega)
  show decide (bits .and .u64 (((maskN (fun (p : Nat) => openB c i p) c.people.toNat : Nat) : Int).fdiv (2 ^ min p.toNat 64)) 1 = 0) = !openB c i p
  rw [this, show ((p.toNat : Nat) : Int) = p by omega]
  cases openB c i p <;> rfl
theorem aLoads_pure (c : CaseD) (ps : List (Int × Int)) (hc : Held c) (hps : ps.length ≤ 1000000) : Pure Try.prog 18 [encC c, pairs ps] (.tup [ints (loadsR c ps), encI (loadsE c ps)]) [] := by
  have hbl := hc.bars
  have hsl := hc.sizes
  refine Pure.intro (ts := [4, 5]) Try.func18 (by kernel_rfl) rfl rfl rfl (Nat.le_of_ble_eq_true rfl) ?_ ?_
  · simp [pure_case, pure_pairs, encI, PV.pure, pureL]
  refine sZ [1, 2] (fun P S K => XvBox S.nx (S.get 0) (fun r0 ef0 => K ⟨[(1, S.get 1), (2, r0)], (Eff.hp ef0 S.nx S.hp), (S.nx + ef0.add.length), S.gh⟩)) fun K hK => ?_
  repeat' (first | (refine hK _ ?_; clear hK K) | refine And.intro ?_ ?_ | exact cl | (refine st ?_; try simp only [encC, pairs, encP]) | simp only [encC, pairs, encP])
  all_goals
  refine Tri.seq ?_
  refine sZ [1, 2, 6] (fun P S K => XvLoad P 38 (M S.hp S.nx) (S.get 2) (fun r0 _ => XvFnIV P (M S.hp S.nx) (.fn 15 []) [r0] (fun r1 ef1 => K ⟨[(1, S.get 1), (2, S.get 2), (6, r1)], (Eff.hp ef1 S.nx S.hp), (S.nx + ef1.add.length), S.gh⟩))) fun K hK => ?_
  repeat' (first | (refine hK _ ?_; clear hK K) | refine And.intro ?_ ?_ | exact cl | refine .inl ⟨_, _, aValid_pure c hc, ?_⟩ | (refine st ?_; try simp only [encC, pairs, encP]) | simp only [encC, pairs, encP])
  all_goals
  refine sY [1, 2, 6, 14] (fun P S K => XvBinOV P .neq 32 (.const (.int .i64 0)) (S.get 6) (.atom (.int .i64 0)) (fun r1 _ => K ⟨[(1, S.get 1), (2, S.get 2), (6, S.get 6), (14, r1)], S.hp, S.nx, S.gh⟩)) ?_
  all_goals
  refine Tri.cond rfl (fun h14 => ?_) (fun h14 => ?_)
  ·try (cases h14; done)
   all_goals (try simp only [CQ] at h14)
   all_goals
   refine sY [4, 5] (fun P S K => K ⟨[(4, (.atom (.slice none 0 0))), (5, (S.get 6))], S.hp, S.nx, S.gh⟩) ?_
   refine Tri.asSl 4 1 rfl ?_
   all_goals
   refine Tri.ret ?_
   show ResOk _ _ _ _
   rw [(loads_bad h14).1, (loads_bad h14).2]
   exact ResOk.frz 5 lstB23 lpvB20
  ·try (cases h14; done)
   all_goals (try simp only [CQ] at h14)
   all_goals
   refine Tri.skip ?_
   refine Tri.seq ?_
   have hv : validC c = 0 := by omega
   have hG := valid_good hv
   have hpl := hG.lo
   have hph := hG.hi
   have hmany := hG.many
   refine sZ [1, 2, 21] (fun P S K => XvLen P 23 (S.get 1) (fun r1 _ => XvFieldAddr P 38 0 (S.get 2) (fun r2 _ => XvLoad P 22 (M S.hp S.nx) r2 (fun r3 _ => XvLen P 22 r3 (fun r4 _ => XvBinOV P .neq 3 (.tmp 20) r1 r4 (fun r5 _ => K ⟨[(1, S.get 1), (2, S.get 2), (21, r5)], S.hp, S.nx, S.gh⟩)))))) fun K hK => ?_
   repeat' (first | (refine hK _ ?_; clear hK K) | refine And.intro ?_ ?_ | exact cl | (refine st ?_; try simp only [encC, pairs, encP]) | simp only [encC, pairs, encP])
   all_goals
   refine Tri.cond rfl (fun h21 => ?_) (fun h21 => ?_)
   ·try (cases h21; done)
    all_goals (try simp only [CQ] at h21)
    all_goals
    refine sY [4, 5] (fun P S K => K ⟨[(4, (.atom (.slice none 0 0))), (5, (.atom (.int .i64 1)))], S.hp, S.nx, S.gh⟩) ?_
    refine Tri.asSl 4 1 rfl ?_
    all_goals
    refine Tri.ret ?_
    show ResOk _ _ _ _
    rw [(loads_len hv (by omega)).1, (loads_len hv (by omega)).2]
    exact ResOk.frz 5 lstB23 lpvB20
   ·try (cases h21; done)
    all_goals (try simp only [CQ] at h21)
    all_goals
    refine Tri.skip ?_
    refine sZ [1, 2, 7] (fun P S K => XvLoad P 38 (M S.hp S.nx) (S.get 2) (fun r0 _ => XvFnIV P (M S.hp S.nx) (.fn 46 []) [r0] (fun r1 ef1 => K ⟨[(1, S.get 1), (2, S.get 2), (7, r1)], (Eff.hp ef1 S.nx S.hp), (S.nx + ef1.add.length), S.gh⟩))) fun K hK => ?_
    repeat' (first | (refine hK _ ?_; clear hK K) | refine And.intro ?_ ?_ | exact cl | refine .inl ⟨_, _, open_pure c hG.five (by omega), ?_⟩ | (refine st ?_; try simp only [encC, pairs, encP, nats, renL_encN]) | simp only [encC, pairs, encP, nats, renL_encN])
    all_goals
    refine sZ [1, 2, 7, 8] (fun P S K => XvFieldAddr P 38 1 (S.get 2) (fun r0 _ => XvLoad P 3 (M S.hp S.nx) r0 (fun r1 _ => XvMake P 22 (M S.hp S.nx) r1 r1 (fun r2 ef2 => K ⟨[(1, S.get 1), (2, S.get 2), (7, S.get 7), (8, r2)], (Eff.hp ef2 S.nx S.hp), (S.nx + ef2.add.length), S.gh⟩)))) fun K hK => ?_
    repeat' (first | (refine hK _ ?_; clear hK K) | ((first | refine xG_intro (fun hg => ?_) (fun hg => ?_) | refine fun (hg : (_ : Prop)) => ?_) <;> ((try simp only [BQ] at hg); try (exfalso; omega))) | refine And.intro ?_ ?_ | exact cl | refine one_take ?_ _ | refine one_drop ?_ _ | simp (maxSteps := 2000000) only [↓SD, push_cast, Nat.reduceAdd, Nat.reduceSub, Nat.reduceMul, Nat.reduceLT, Nat.reduceLeDiff, Nat.reduceEqDiff, Int.reduceToNat, reduceIte, reduceCtorEq, Int.reduceLE, Int.reduceLT, Int.reduceNeg, ints, strs, encI, encS, encC, pairs, encP])
    rw [zeros_loads c ps]
    all_goals
    refine Tri.seq ?_
    refine sZ [2, 7, 8, 27, 28, 29] (fun P S K => XvLen P 23 (S.get 1) (fun r1 _ => K ⟨[(2, S.get 2), (7, S.get 7), (8, S.get 8), (27, (S.get 1)), (28, r1), (29, (.atom (.int .i64 0)))], S.hp, S.nx, S.gh⟩)) fun K hK => ?_
    repeat' (first | (refine hK _ ?_; clear hK K) | refine And.intro ?_ ?_ | exact cl | (refine st ?_; try simp only [encC, pairs, encP]) | simp only [encC, pairs, encP])
    all_goals
    refine Tri.block ?_
    refine Tri.loop (α := (i : Nat) ×' (i ≤ ps.length ∧ ∀ j, j < i → badPair c j (lp ps j) = false)) (fun z => (fun (i : Nat) => (⟨[(2, .ptr 0 3 0 0), (7, nats (opens c)), (8, .ob 1 1 0 c.people.toNat), (27, pairs ps), (28, encI ps.length), (29, encI i)], [(0, some ⟨3, [encC c]⟩), (1, some ⟨1, (loadsG c ps i).map encI⟩)], 2, []⟩ : St)) z.1) (fun z => (fun (i : Nat) => ps.length - i) z.1) ⟨0, ⟨Nat.zero_le _, fun j hj => absurd hj (Nat.not_lt_zero _)⟩⟩ [0, 1] ?_ ?_
    ·exact leqB21
    ·rintro ⟨i, ⟨hi, hnb⟩⟩
     refine sY [2, 7, 8, 27, 28, 29, 30] (fun P S K => XvBinOV P .lss 3 (.tmp 28) (S.get 29) (S.get 28) (fun r0 _ => K ⟨[(2, S.get 2), (7, S.get 7), (8, S.get 8), (27, S.get 27), (28, S.get 28), (29, S.get 29), (30, r0)], S.hp, S.nx, S.gh⟩)) ?_
     all_goals
     refine Tri.seq ?_
     refine Tri.cond rfl (fun h30 => ?_) (fun h30 => ?_)
     ·try (cases h30; done)
      all_goals (try simp only [CQ] at h30)
      all_goals
      refine Tri.skip ?_
      refine Tri.seq ?_
      refine Tri.block ?_
      have hil : i < ps.length := by omega
      have hlg := loadsG_len c ps i
      have hol : i < (opens c).length := by rw [opens_len]; omega
      have hog := opens_get (c := c) (i := i) (by omega)
      obtain ⟨x1, x2, hxe⟩ : ∃ x1 x2, lp ps i = (x1, x2) := ⟨_, _, rfl⟩
      have hgx : (ps.map encP).getD i .junk = .agg [.atom (.int .i64 x1), .atom (.int .i64 x2)] := by rw [getD_encP hil, hxe]; rfl
      refine sZ [2, 7, 8, 9, 10, 27, 28, 29] (fun P S K => XvIndexAddr P 23 (S.get 27) (S.get 29) (fun r1 _ => XvLoad P 67 (M S.hp S.nx) r1 (fun r2 _ => XvAlloc P 67 S.nx (fun r3 ef3 => XvStore P 67 (M (Eff.hp ef3 S.nx S.hp) (S.nx + ef3.add.length)) r3 r2 (fun r5 ef5 => K ⟨[(2, S.get 2), (7, S.get 7), (8, S.get 8), (9, (S.get 29)), (10, r3), (27, S.get 27), (28, S.get 28), (29, S.get 29)], (Eff.hp ef5 (S.nx + ef3.add.length) (Eff.hp ef3 S.nx S.hp)), ((S.nx + ef3.add.length) + ef5.add.length), S.gh⟩))))) fun K hK => ?_
      repeat' (first | (refine hK _ ?_; clear hK K) | refine And.intro ?_ ?_ | exact cl | (refine st ?_; try simp only [encC, pairs, encP, hgx]) | simp only [encC, pairs, encP, hgx])
      all_goals
      refine Tri.seq ?_
      obtain hx | hx | hx | hx : x1 < 0 ∨ (0 ≤ x1 ∧ x2 ≤ x1) ∨ (0 ≤ x1 ∧ x1 < x2 ∧ c.people ≤ x2) ∨ (0 ≤ x1 ∧ x1 < x2 ∧ x2 < c.people) := by omega
      all_goals (try have hb1 := bit_open c i (p := x1) (by omega) (by omega) hph)
      all_goals (try have hb2 := bit_open c i (p := x2) (by omega) (by omega) hph)
      all_goals generalize hmk : maskN (fun (p : Nat) => openB c i p) c.people.toNat = mk at *
      all_goals generalize ho1 : openB c i x1 = o1 at *
      all_goals generalize ho2 : openB c i x2 = o2 at *
      all_goals
      refine sDa 39 [2, 7, 8, 9, 10, 27, 28, 29, 72] (fun P GD S K => XvIndexAddr P 67 (S.get 10) (.atom (.int .i64 0)) (fun r0 ef0 => XvLoad P 3 (M S.hp S.nx) r0 (fun r1 ef1 => XvBinOV P .lss 3 (.const (.int .i64 0)) r1 (.atom (.int .i64 0)) (fun r2 ef2 => Xge r2 false (fun k => XvIndexAddr P 67 (S.get 10) (.atom (.int .i64 0)) k) (fun g4 r4 ef4 => Xge g4 false (fun k => XvLoad P 3 (M S.hp S.nx) r4 k) (fun g5 r5 ef5 => Xge g5 false (fun k => XvIndexAddr P 67 (S.get 10) (.atom (.int .i64 1)) k) (fun g6 r6 ef6 => Xge g6 false (fun k => XvLoad P 3 (M S.hp S.nx) r6 k) (fun g7 r7 ef7 => Xge g7 false (fun k => XvBinOV P .geq 3 (.tmp 41) r5 r7 k) (fun g8 r8 ef8 => XvPick g8 (.atom (.bool true)) r8 (fun r9 ef9 => Xge r9 false (fun k => XvIndexAddr P 67 (S.get 10) (.atom (.int .i64 1)) k) (fun g11 r11 ef11 => Xge g11 false (fun k => XvLoad P 3 (M S.hp S.nx) r11 k) (fun g12 r12 ef12 => Xge g12 false (fun k => XvFieldAddr P 38 1 (S.get 2) k) (fun g13 r13 ef13 => Xge g13 false (fun k => XvLoad P 3 (M S.hp S.nx) r13 k) (fun g14 r14 ef14 => Xge g14 false (fun k => XvBinOV P .geq 3 (.tmp 48) r12 r14 k) (fun g15 r15 ef15 => XvPick g15 (.atom (.bool true)) r15 (fun r16 ef16 => Xge r16 false (fun k => k (S.get 7) e0) (fun g18 r18 ef18 => Xge g18 false (fun k => k (S.get 9) e0) (fun g19 r19 ef19 => Xge g19 false (fun k => XvIndexAddr P 82 r18 r19 k) (fun g20 r20 ef20 => Xge g20 false (fun k => XvLoad P 83 (M S.hp S.nx) r20 k) (fun g21 r21 ef21 => Xge g21 false (fun k => XvIndexAddr P 67 (S.get 10) (.atom (.int .i64 0)) k) (fun g22 r22 ef22 => Xge g22 false (fun k => XvLoad P 3 (M S.hp S.nx) r22 k) (fun g23 r23 ef23 => Xge g23 false (fun k => XvBinOV P .shr 83 (.tmp 57) r21 r23 k) (fun g24 r24 ef24 => Xge g24 false (fun k => XvBinOV P .and 83 (.const (.int .u64 1)) r24 (.atom (.int .u64 1)) k) (fun g25 r25 ef25 => Xge g25 false (fun k => XvBinOV P .eql 83 (.const (.int .u64 0)) r25 (.atom (.int .u64 0)) k) (fun g26 r26 ef26 => XvPick g26 (.atom (.bool true)) r26 (fun r27 ef27 => Xge r27 false (fun k => k (S.get 7) e0) (fun g29 r29 ef29 => Xge g29 false (fun k => k (S.get 9) e0) (fun g30 r30 ef30 => Xge g30 false (fun k => XvIndexAddr P 82 r29 r30 k) (fun g31 r31 ef31 => Xge g31 false (fun k => XvLoad P 83 (M S.hp S.nx) r31 k) (fun g32 r32 ef32 => Xge g32 false (fun k => XvIndexAddr P 67 (S.get 10) (.atom (.int .i64 1)) k) (fun g33 r33 ef33 => Xge g33 false (fun k => XvLoad P 3 (M S.hp S.nx) r33 k) (fun g34 r34 ef34 => Xge g34 false (fun k => XvBinOV P .shr 83 (.tmp 68) r32 r34 k) (fun g35 r35 ef35 => Xge g35 false (fun k => XvBinOV P .and 83 (.const (.int .u64 1)) r35 (.atom (.int .u64 1)) k) (fun g36 r36 ef36 => Xge g36 false (fun k => XvBinOV P .eql 83 (.const (.int .u64 0)) r36 (.atom (.int .u64 0)) k) (fun g37 r37 ef37 => XvPick g37 (.atom (.bool true)) r37 (fun r38 ef38 => (trOk S.nx GD [⟨S.nx, 0, ef0.rd, [], []⟩, ⟨S.nx, 0, ef1.rd, [], []⟩, ⟨S.nx, 0, ef2.rd, [], []⟩, ⟨S.nx, 0, [], [], []⟩, ⟨S.nx, 0, ef4.rd, [], []⟩, ⟨S.nx, 0, ef5.rd, [], []⟩, ⟨S.nx, 0, ef6.rd, [], []⟩, ⟨S.nx, 0, ef7.rd, [], []⟩, ⟨S.nx, 0, ef8.rd, [], []⟩, ⟨S.nx, 0, ef9.rd, [], []⟩, ⟨S.nx, 0, [], [], []⟩, ⟨S.nx, 0, ef11.rd, [], []⟩, ⟨S.nx, 0, ef12.rd, [], []⟩, ⟨S.nx, 0, ef13.rd, [], []⟩, ⟨S.nx, 0, ef14.rd, [], []⟩, ⟨S.nx, 0, ef15.rd, [], []⟩, ⟨S.nx, 0, ef16.rd, [], []⟩, ⟨S.nx, 0, [], [], []⟩, ⟨S.nx, 0, ef18.rd, [], []⟩, ⟨S.nx, 0, ef19.rd, [], []⟩, ⟨S.nx, 0, ef20.rd, [], []⟩, ⟨S.nx, 0, ef21.rd, [], []⟩, ⟨S.nx, 0, ef22.rd, [], []⟩, ⟨S.nx, 0, ef23.rd, [], []⟩, ⟨S.nx, 0, ef24.rd, [], []⟩, ⟨S.nx, 0, ef25.rd, [], []⟩, ⟨S.nx, 0, ef26.rd, [], []⟩, ⟨S.nx, 0, ef27.rd, [], []⟩, ⟨S.nx, 0, [], [], []⟩, ⟨S.nx, 0, ef29.rd, [], []⟩, ⟨S.nx, 0, ef30.rd, [], []⟩, ⟨S.nx, 0, ef31.rd, [], []⟩, ⟨S.nx, 0, ef32.rd, [], []⟩, ⟨S.nx, 0, ef33.rd, [], []⟩, ⟨S.nx, 0, ef34.rd, [], []⟩, ⟨S.nx, 0, ef35.rd, [], []⟩, ⟨S.nx, 0, ef36.rd, [], []⟩, ⟨S.nx, 0, ef37.rd, [], []⟩, ⟨S.nx, 0, ef38.rd, [], []⟩] = true ∧ K ⟨[(2, S.get 2), (7, S.get 7), (8, S.get 8), (9, S.get 9), (10, S.get 10), (27, S.get 27), (28, S.get 28), (29, S.get 29), (72, r38)], S.hp, S.nx, S.gh⟩))))))))))))))))))))))))))))))))))))) fun K hK S1 hS1 => ?_
      have hab0 : S1.get 2 = .ptr 0 3 0 0 := by subst hS1; rfl
      have hab1 : S1.get 7 = nats (opens c) := by subst hS1; rfl
      have hab2 : S1.get 9 = encI i := by subst hS1; rfl
      have hab3 : S1.get 10 = .ptr 2 2 0 0 := by subst hS1; rfl
      have hab4 : lk S1.hp 0 = some (some ⟨3, [encC c]⟩) := by subst hS1; rfl
      have hab5 : lk S1.hp 2 = some (some ⟨2, [.agg [.atom (.int .i64 x1), .atom (.int .i64 x2)]]⟩) := by subst hS1; rfl
      have hab6 : S1.nx = 3 := by subst hS1; rfl
      repeat' (first | (refine hK _ ?_; clear hK K) | (refine (?_ : trOk _ _ _ = true); kernel_rfl) | ((first | refine xG_intro (fun hg => ?_) (fun hg => ?_) | refine fun (hg : (_ : Prop)) => ?_) <;> ((try simp only [BQ] at hg); try (exfalso; omega))) | refine And.intro ?_ ?_ | exact cl | refine one_take ?_ _ | refine one_drop ?_ _ | simp (maxSteps := 2000000) only [↓SD, push_cast, Nat.reduceAdd, Nat.reduceSub, Nat.reduceMul, Nat.reduceLT, Nat.reduceLeDiff, Nat.reduceEqDiff, Int.reduceToNat, reduceIte, reduceCtorEq, Int.reduceLE, Int.reduceLT, Int.reduceNeg, ints, strs, encI, encS, encC, pairs, encP, ↓SE, dec_no (show ¬ x1 < 0 by omega), dec_no (show ¬ x2 ≤ x1 by omega), dec_no (show ¬ c.people ≤ x2 by omega), nats, getD_encN hol, hog, encN, hb1, hb2, hab0, hab1, hab2, hab3, hab4, hab5, hab6] | simp (maxSteps := 2000000) only [↓SD, push_cast, Nat.reduceAdd, Nat.reduceSub, Nat.reduceMul, Nat.reduceLT, Nat.reduceLeDiff, Nat.reduceEqDiff, Int.reduceToNat, reduceIte, reduceCtorEq, Int.reduceLE, Int.reduceLT, Int.reduceNeg, ints, strs, encI, encS, encC, pairs, encP, ↓SE, dec_yes hx, hab0, hab1, hab2, hab3, hab4, hab5, hab6] | simp (maxSteps := 2000000) only [↓SD, push_cast, Nat.reduceAdd, Nat.reduceSub, Nat.reduceMul, Nat.reduceLT, Nat.reduceLeDiff, Nat.reduceEqDiff, Int.reduceToNat, reduceIte, reduceCtorEq, Int.reduceLE, Int.reduceLT, Int.reduceNeg, ints, strs, encI, encS, encC, pairs, encP, ↓SE, dec_no (show ¬ x1 < 0 by omega), dec_yes hx.2, hab0, hab1, hab2, hab3, hab4, hab5, hab6])
      all_goals try simp (disch := omega) only [wrap_id, wrap8_id]
      all_goals subst hS1
      all_goals clear hab0 hab1 hab2 hab3 hab4 hab5 hab6
      all_goals refine st ?_
      all_goals
      refine Tri.cond rfl (fun h72 => ?_) (fun h72 => ?_)
      ·try (cases h72; done)
       all_goals (try simp only [CQ] at h72)
       all_goals
       refine sY [4, 5] (fun P S K => K ⟨[(4, (.atom (.slice none 0 0))), (5, (.atom (.int .i64 1)))], S.hp, S.nx, S.gh⟩) ?_
       refine Tri.asSl 4 1 rfl ?_
       all_goals
       refine Tri.ret ?_
       show ResOk _ _ _ _
       have hb : badPair c i (lp ps i) = true := by rw [hxe]; unfold badPair; simp_all; try omega
       rw [(loads_pair hv (by omega) hil hb).1, (loads_pair hv (by omega) hil hb).2]
       exact ResOk.frz 5 lstB23 lpvB20
      ·try (cases h72; done)
       all_goals (try simp only [CQ] at h72)
       all_goals
       refine Tri.skip ?_
       have hx0 : 0 ≤ x1 ∧ x1 < x2 ∧ x2 < c.people := by omega
       have hrg := li_rng (loadsG_rng (c := c) (fun x hx => by have := hG.size x hx; omega) ps i) (by omega)
       have hsz := li_rng (m := 0) (M := 1024) (fun x hx => by have := hG.size x hx; omega) (by omega) i
       have hil2 : i < c.sizes.length := by omega
       have hra := hrg x1.toNat
       refine sD 12 [2, 7, 8, 9, 10, 27, 28, 29] (fun P GD S K => XvIndexAddr P 67 (S.get 10) (.atom (.int .i64 0)) (fun r1 ef1 => XvLoad P 3 (M S.hp S.nx) r1 (fun r2 ef2 => XvIndexAddr P 22 (S.get 8) r2 (fun r3 ef3 => XvLoad P 3 (M S.hp S.nx) r3 (fun r4 ef4 => XvFieldAddr P 38 0 (S.get 2) (fun r5 ef5 => XvLoad P 22 (M S.hp S.nx) r5 (fun r6 ef6 => XvIndexAddr P 22 r6 (S.get 9) (fun r8 ef8 => XvLoad P 3 (M S.hp S.nx) r8 (fun r9 ef9 => XvBinOV P .add 3 (.tmp 82) r4 r9 (fun r10 ef10 => XvIndexAddr P 22 (S.get 8) r2 (fun r11 ef11 => (trOk S.nx GD [⟨S.nx, 0, [], [], []⟩, ⟨S.nx, 0, ef1.rd, [], []⟩, ⟨S.nx, 0, ef2.rd, [], []⟩, ⟨S.nx, 0, ef3.rd, [], []⟩, ⟨S.nx, 0, ef4.rd, [], []⟩, ⟨S.nx, 0, ef5.rd, [], []⟩, ⟨S.nx, 0, ef6.rd, [], []⟩, ⟨S.nx, 0, [], [], []⟩, ⟨S.nx, 0, ef8.rd, [], []⟩, ⟨S.nx, 0, ef9.rd, [], []⟩, ⟨S.nx, 0, ef10.rd, [], []⟩, ⟨S.nx, 0, ef11.rd, [], []⟩] = true ∧ XvStore P 3 (M S.hp S.nx) r11 r10 (fun r12 ef12 => K ⟨[(2, S.get 2), (7, S.get 7), (8, S.get 8), (9, S.get 9), (10, S.get 10), (27, S.get 27), (28, S.get 28), (29, S.get 29)], (Eff.hp ef12 S.nx S.hp), (S.nx + ef12.add.length), S.gh⟩))))))))))))) fun K hK => ?_
       repeat' (first | (refine hK _ ?_; clear hK K) | (refine (?_ : trOk _ _ _ = true); kernel_rfl) | refine And.intro ?_ ?_ | exact cl | (refine st ?_; try simp only [encC, pairs, encP, getD_encI hil2, getD_encI (show x1.toNat < (loadsG c ps i).length by omega), wrap_id (x := li (loadsG c ps i) x1.toNat + li c.sizes i) (by omega) (by omega), hlg]) | simp only [encC, pairs, encP, getD_encI hil2, getD_encI (show x1.toNat < (loadsG c ps i).length by omega), wrap_id (x := li (loadsG c ps i) x1.toNat + li c.sizes i) (by omega) (by omega), hlg])
       all_goals try simp (disch := omega) only [wrap_id, wrap8_id]
       rw [addAt_enc]
       have hlg2 : (addAt (loadsG c ps i) x1 (li c.sizes i)).length = c.people.toNat := by rw [addAt_len, hlg]
       have hrb := li_rng (addAt_rng (k := x1) (v := li c.sizes i) (m := 2048 * (i : Int)) (M := 2048 * (i : Int) + 1024) (loadsG_rng (c := c) (fun x hx => by have := hG.size x hx; omega) ps i) (by omega) (by omega)) (by omega) x2.toNat
       all_goals
       refine rD 12 [2, 7, 8, 27, 28, 29] (fun P GD S K => XvIndexAddr P 67 (S.get 10) (.atom (.int .i64 1)) (fun r1 ef1 => XvLoad P 3 (M S.hp S.nx) r1 (fun r2 ef2 => XvIndexAddr P 22 (S.get 8) r2 (fun r3 ef3 => XvLoad P 3 (M S.hp S.nx) r3 (fun r4 ef4 => XvFieldAddr P 38 0 (S.get 2) (fun r5 ef5 => XvLoad P 22 (M S.hp S.nx) r5 (fun r6 ef6 => XvIndexAddr P 22 r6 (S.get 9) (fun r8 ef8 => XvLoad P 3 (M S.hp S.nx) r8 (fun r9 ef9 => XvBinOV P .add 3 (.tmp 94) r4 r9 (fun r10 ef10 => XvIndexAddr P 22 (S.get 8) r2 (fun r11 ef11 => (trOk S.nx GD [⟨S.nx, 0, [], [], []⟩, ⟨S.nx, 0, ef1.rd, [], []⟩, ⟨S.nx, 0, ef2.rd, [], []⟩, ⟨S.nx, 0, ef3.rd, [], []⟩, ⟨S.nx, 0, ef4.rd, [], []⟩, ⟨S.nx, 0, ef5.rd, [], []⟩, ⟨S.nx, 0, ef6.rd, [], []⟩, ⟨S.nx, 0, [], [], []⟩, ⟨S.nx, 0, ef8.rd, [], []⟩, ⟨S.nx, 0, ef9.rd, [], []⟩, ⟨S.nx, 0, ef10.rd, [], []⟩, ⟨S.nx, 0, ef11.rd, [], []⟩] = true ∧ XvStore P 3 (M S.hp S.nx) r11 r10 (fun r12 ef12 => K ⟨[(2, S.get 2), (7, S.get 7), (8, S.get 8), (27, S.get 27), (28, S.get 28), (29, S.get 29)], (Eff.hp ef12 S.nx S.hp), (S.nx + ef12.add.length), S.gh⟩))))))))))))) fun K hK => ?_
       repeat' (first | (refine hK _ ?_; clear hK K) | (refine (?_ : trOk _ _ _ = true); kernel_rfl) | refine And.intro ?_ ?_ | exact cl | (refine st ?_; try simp only [encC, pairs, encP, getD_encI hil2, getD_encI (show x2.toNat < (addAt (loadsG c ps i) x1 (li c.sizes i)).length by omega), wrap_id (x := li (addAt (loadsG c ps i) x1 (li c.sizes i)) x2.toNat + li c.sizes i) (by omega) (by omega), hlg2]) | simp only [encC, pairs, encP, getD_encI hil2, getD_encI (show x2.toNat < (addAt (loadsG c ps i) x1 (li c.sizes i)).length by omega), wrap_id (x := li (addAt (loadsG c ps i) x1 (li c.sizes i)) x2.toNat + li c.sizes i) (by omega) (by omega), hlg2])
       all_goals try simp (disch := omega) only [wrap_id, wrap8_id]
       rw [addAt_enc]
       all_goals
       refine rY [2, 7, 8, 27, 28, 29] (fun P S K => XvBinOV P .add 3 (.const (.int .i64 1)) (S.get 29) (.atom (.int .i64 1)) (fun r0 _ => K ⟨[(2, S.get 2), (7, S.get 7), (8, S.get 8), (27, S.get 27), (28, S.get 28), (29, r0)], S.hp, S.nx, S.gh⟩)) ?_
       all_goals try simp (disch := omega) only [wrap_id, wrap8_id]
       all_goals
       refine ⟨⟨i + 1, by omega, fun j hj => ?_⟩, [0, 1], by dsimp only; omega, ?_⟩
       · rcases Nat.lt_succ_iff_lt_or_eq.1 hj with hj | rfl
         · exact hnb j hj
         · rw [hxe]; unfold badPair; subst ho1; subst ho2; simp_all; try omega
       · dsimp only
         rw [show loadsG c ps (i + 1) = addAt (addAt (loadsG c ps i) x1 (li c.sizes i)) x2 (li c.sizes i) by rw [loadsG, loadStep, hxe]]
         exact leqB21
     ·try (cases h30; done)
      all_goals (try simp only [CQ] at h30)
      all_goals
      refine Tri.exit ?_
      have hie : i = ps.length := by omega
      subst hie
      refine sY [4, 5] (fun P S K => K ⟨[(4, (S.get 8)), (5, (.atom (.int .i64 0)))], S.hp, S.nx, S.gh⟩) ?_
      all_goals
      refine Tri.ret ?_
      show ResOk _ _ _ _
      rw [(loads_ok hv (by omega) hnb).1, (loads_ok hv (by omega) hnb).2, show PV.ob 1 1 0 c.people.toNat = PV.ob 1 1 0 (loadsG c ps ps.length).length by rw [loadsG_len]]
      exact ResOk.frz 5 lstB23 lpvB20
theorem leqB30 {p : Prop} (h : p := by (refine ⟨4, ?_, ?_, rfl, by simp, rfl, fun _ h _ => absurd h (Nat.not_lt_zero _)⟩ <;> (simp only [List.forall_mem_cons]; repeat' (first | refine And.intro ?_ ?_ | (intro p hp; exact absurd hp List.not_mem_nil) | rfl | exact sp (pure_case _) | exact sp (pure_pairs _) | exact sp (pure_nats _) | exact (sealed_pure _ _ _ (pure_ints _)).trans (ren_ints _ _).symm | exact (sealed_pure _ _ _ (pure_strs _)).trans (ren_strs _ _).symm | exact sp (by assumption) | (intro o ho; cases ho; refine ⟨by decide, ?_⟩; first | (refine LeqS.row rfl ?_ ?_; (next => (first | rfl | (simp only [List.map_append, List.map_cons, List.map_nil, List.append_nil, List.nil_append, List.append_assoc, List.cons_append, encI, encS, ints, strs]; done) | (simp [encI, encS, ints, strs, encP, encN, List.map_set]; done))); (next => (first | rfl | exact pureL_encI _ | exact pureL_encS _ | exact pureL_ints _ | exact pureL_strs _ | exact pureL_encP _ | exact pureL_encN _ | (simp [pureL_append, pureL_encI, pureL_encS, pureL_ints, pureL_strs, pureL, PV.pure, pure_ints, pure_strs, pure_case, pureL_encP, pure_pairs, pureL_encN, pure_nats]; done))); done) | refine ⟨_, rfl, rfl, ?_⟩) | (simp [St.born, St.known, retV, St.get, St.obj, lk, sealed, PV.ren, renL, rmap, AO.ren, ints, strs, encI, encS, map_sealed_encI, map_sealed_encS, map_sealed_ints, map_sealed_strs, map_ren_encI, map_ren_encS, map_ren_ints, map_ren_strs, renL_encI, renL_encS, renL_ints, renL_strs, ren_case, encC, pairs, renL_encP, map_sealed_encP, map_ren_encP, encP, take_map_len] <;> omega)))); first | done | fail) : p := h
def lexi : List Int → List Int → Int
  | [], [] => 0
  | [], _ :: _ => -1
  | _ :: _, [] => 1
  | a :: x, b :: y => if a < b then -1 else if b < a then 1 else lexi x y
theorem lexi_len {a b : List Int} (h : a = [] ∨ b = []) : lexi a b = if a.length < b.length then -1 else if b.length < a.length then 1 else 0 := by
  cases a <;> cases b <;> simp_all [lexi]
theorem lexi_end {a b : List Int} {k : Nat} (hk : a.length ≤ k ∨ b.length ≤ k) (ha : k ≤ a.length) (hb : k ≤ b.length) : lexi (a.drop k) (b.drop k) = if a.length < b.length then -1 else if b.length < a.length then 1 else 0 := by
  rw [lexi_len (by rcases hk with h | h; exact .inl (List.drop_eq_nil_of_le h); exact .inr (List.drop_eq_nil_of_le h))]
  simp only [List.length_drop]
  split <;> split <;> first | rfl | omega | (split <;> first | rfl | omega)
theorem isNaN_pure (a : Int) : Pure Try.prog 81 [encI a] (.atom (.bool false)) [] := by
  refine Pure.intro (ts := [2]) Try.func81 (by kernel_rfl) rfl rfl rfl (Nat.le_of_ble_eq_true rfl) ?_ ?_
  · simp [pure_ints, pure_strs, encI, encS, PV.pure, pureL]
  refine sY [0] (fun P S K => K ⟨[(0, S.get 0)], S.hp, S.nx, S.gh⟩) ?_
  all_goals
  refine sY [2] (fun P S K => XvBinOV P .neq 3 (.tmp 4) (S.get 0) (S.get 0) (fun r2 _ => K ⟨[(2, r2)], S.hp, S.nx, S.gh⟩)) ?_
  all_goals
  refine Tri.ret ?_
  show ResOk _ _ _ _
  exact ResOk.val (aB (by simp)) rfl
theorem cmpCompare_pure (a b : Int) : Pure Try.prog 69 [encI a, encI b] (encI (cmpI a b)) [] := by
  refine Pure.intro (ts := [4]) Try.func69 (by kernel_rfl) rfl rfl rfl (Nat.le_of_ble_eq_true rfl) ?_ ?_
  · simp [pure_ints, pure_strs, encI, encS, PV.pure, pureL]
  refine sY [0, 1] (fun P S K => K ⟨[(0, S.get 0), (1, S.get 1)], S.hp, S.nx, S.gh⟩) ?_
  all_goals
  refine sZ [0, 1, 5] (fun P S K => XvFnIV P (M S.hp S.nx) (.fn 81 []) [(S.get 0)] (fun r1 ef1 => K ⟨[(0, S.get 0), (1, S.get 1), (5, r1)], (Eff.hp ef1 S.nx S.hp), (S.nx + ef1.add.length), S.gh⟩)) fun K hK => ?_
  repeat' (first | (refine hK _ ?_; clear hK K) | refine And.intro ?_ ?_ | exact cl | refine .inl ⟨_, _, isNaN_pure _, ?_⟩ | refine st ?_)
  all_goals
  refine sZ [0, 1, 5, 6] (fun P S K => XvFnIV P (M S.hp S.nx) (.fn 81 []) [(S.get 1)] (fun r1 ef1 => K ⟨[(0, S.get 0), (1, S.get 1), (5, S.get 5), (6, r1)], (Eff.hp ef1 S.nx S.hp), (S.nx + ef1.add.length), S.gh⟩)) fun K hK => ?_
  repeat' (first | (refine hK _ ?_; clear hK K) | refine And.intro ?_ ?_ | exact cl | refine .inl ⟨_, _, isNaN_pure _, ?_⟩ | refine st ?_)
  all_goals
  refine Tri.seq ?_
  refine sY [0, 1, 6, 11] (fun P S K => K ⟨[(0, S.get 0), (1, S.get 1), (6, S.get 6), (11, (S.get 5))], S.hp, S.nx, S.gh⟩) ?_
  all_goals
  refine Tri.cond rfl (fun h11 => ?_) (fun h11 => ?_)
  ·try (cases h11; done)
   all_goals (try simp only [CQ] at h11)
   all_goals
   refine Tri.seq ?_
   refine sY [12] (fun P S K => K ⟨[(12, (S.get 6))], S.hp, S.nx, S.gh⟩) ?_
   all_goals
   refine Tri.cond rfl (fun h12 => ?_) (fun h12 => ?_)
   ·try (cases h12; done)
    all_goals (try simp only [CQ] at h12)
    all_goals
    refine sY [4] (fun P S K => K ⟨[(4, (.atom (.int .i64 0)))], S.hp, S.nx, S.gh⟩) ?_
    all_goals
    refine Tri.ret ?_
    show ResOk _ _ _ _
    done
   ·try (cases h12; done)
    all_goals (try simp only [CQ] at h12)
    all_goals
    refine Tri.skip ?_
    refine sY [4] (fun P S K => K ⟨[(4, (.atom (.int .i64 (-1))))], S.hp, S.nx, S.gh⟩) ?_
    all_goals
    refine Tri.ret ?_
    show ResOk _ _ _ _
    done
  ·try (cases h11; done)
   all_goals (try simp only [CQ] at h11)
   all_goals
   refine Tri.skip ?_
   refine Tri.seq ?_
   refine sY [0, 1, 13] (fun P S K => K ⟨[(0, S.get 0), (1, S.get 1), (13, (S.get 6))], S.hp, S.nx, S.gh⟩) ?_
   all_goals
   refine Tri.cond rfl (fun h13 => ?_) (fun h13 => ?_)
   ·try (cases h13; done)
    all_goals (try simp only [CQ] at h13)
    all_goals
    refine sY [4] (fun P S K => K ⟨[(4, (.atom (.int .i64 1)))], S.hp, S.nx, S.gh⟩) ?_
    all_goals
    refine Tri.ret ?_
    show ResOk _ _ _ _
    done
   ·try (cases h13; done)
    all_goals (try simp only [CQ] at h13)
    all_goals
    refine Tri.skip ?_
    refine Tri.seq ?_
    refine sY [0, 1, 16] (fun P S K => XvBinOV P .lss 3 (.tmp 15) (S.get 0) (S.get 1) (fun r2 _ => K ⟨[(0, S.get 0), (1, S.get 1), (16, r2)], S.hp, S.nx, S.gh⟩)) ?_
    all_goals
    refine Tri.cond rfl (fun h16 => ?_) (fun h16 => ?_)
    ·try (cases h16; done)
     all_goals (try simp only [CQ] at h16)
     all_goals
     refine sY [4] (fun P S K => K ⟨[(4, (.atom (.int .i64 (-1))))], S.hp, S.nx, S.gh⟩) ?_
     all_goals
     refine Tri.ret ?_
     show ResOk _ _ _ _
     exact ResOk.val (aI (by unfold cmpI; rw [if_pos h16])) rfl
    ·try (cases h16; done)
     all_goals (try simp only [CQ] at h16)
     all_goals
     refine Tri.skip ?_
     refine Tri.seq ?_
     refine sY [19] (fun P S K => XvBinOV P .gtr 3 (.tmp 18) (S.get 0) (S.get 1) (fun r2 _ => K ⟨[(19, r2)], S.hp, S.nx, S.gh⟩)) ?_
     all_goals
     refine Tri.cond rfl (fun h19 => ?_) (fun h19 => ?_)
     ·try (cases h19; done)
      all_goals (try simp only [CQ] at h19)
      all_goals
      refine sY [4] (fun P S K => K ⟨[(4, (.atom (.int .i64 1)))], S.hp, S.nx, S.gh⟩) ?_
      all_goals
      refine Tri.ret ?_
      show ResOk _ _ _ _
      exact ResOk.val (aI (by unfold cmpI; rw [if_neg h16, if_pos h19])) rfl
     ·try (cases h19; done)
      all_goals (try simp only [CQ] at h19)
      all_goals
      refine Tri.skip ?_
      refine sY [4] (fun P S K => K ⟨[(4, (.atom (.int .i64 0)))], S.hp, S.nx, S.gh⟩) ?_
      all_goals
      refine Tri.ret ?_
      show ResOk _ _ _ _
      exact ResOk.val (aI (by unfold cmpI; rw [if_neg h16, if_neg h19])) rfl
theorem slicesCompare_pure (a b : List Int) (ha : a.length ≤ 9223372036854775807) (hb : b.length ≤ 9223372036854775807) : Pure Try.prog 76 [ints a, ints b] (encI (lexi a b)) [] := by
  refine Pure.intro (ts := [4]) Try.func76 (by kernel_rfl) rfl rfl rfl (Nat.le_of_ble_eq_true rfl) ?_ ?_
  · simp [pure_ints, pure_strs, encI, encS, PV.pure, pureL]
  refine sY [0, 1] (fun P S K => K ⟨[(0, S.get 0), (1, S.get 1)], S.hp, S.nx, S.gh⟩) ?_
  all_goals
  refine Tri.seq ?_
  refine sY [0, 1, 9, 10, 11] (fun P S K => XvLen P 22 (S.get 0) (fun r1 _ => K ⟨[(0, S.get 0), (1, S.get 1), (9, (S.get 0)), (10, r1), (11, (.atom (.int .i64 0)))], S.hp, S.nx, S.gh⟩)) ?_
  all_goals
  refine Tri.block ?_
  refine Tri.loop (α := (k : Nat) ×' ((k ≤ a.length ∧ k ≤ b.length) ∧ lexi a b = lexi (a.drop k) (b.drop k))) (fun z => (fun (k : Nat) => (⟨[(0, ints a), (1, ints b), (9, ints a), (10, encI a.length), (11, encI k)], [], 0, []⟩ : St)) z.1) (fun z => (fun (k : Nat) => a.length - k) z.1) ⟨0, ⟨by omega, rfl⟩⟩ [] ?_ ?_
  ·exact leqB30
  ·rintro ⟨k, ⟨⟨hk, hk2⟩, hkj⟩⟩
   refine sY [0, 1, 9, 10, 11, 12] (fun P S K => XvBinOV P .lss 3 (.tmp 10) (S.get 11) (S.get 10) (fun r0 _ => K ⟨[(0, S.get 0), (1, S.get 1), (9, S.get 9), (10, S.get 10), (11, S.get 11), (12, r0)], S.hp, S.nx, S.gh⟩)) ?_
   all_goals
   refine Tri.seq ?_
   refine Tri.cond rfl (fun h12 => ?_) (fun h12 => ?_)
   ·try (cases h12; done)
    all_goals (try simp only [CQ] at h12)
    all_goals
    refine Tri.skip ?_
    refine Tri.seq ?_
    refine Tri.block ?_
    have hka : k < a.length := by omega
    refine sZ [0, 1, 5, 6, 9, 10, 11] (fun P S K => XvIndexAddr P 22 (S.get 9) (S.get 11) (fun r1 _ => XvLoad P 3 (M S.hp S.nx) r1 (fun r2 _ => K ⟨[(0, S.get 0), (1, S.get 1), (5, (S.get 11)), (6, r2), (9, S.get 9), (10, S.get 10), (11, S.get 11)], S.hp, S.nx, S.gh⟩))) fun K hK => ?_
    repeat' (first | (refine hK _ ?_; clear hK K) | refine And.intro ?_ ?_ | exact cl | (refine st ?_; try simp only [getD_encI hka]) | simp only [getD_encI hka])
    all_goals
    refine Tri.seq ?_
    refine sY [0, 1, 5, 6, 9, 10, 11, 19] (fun P S K => XvLen P 22 (S.get 1) (fun r2 _ => XvBinOV P .geq 3 (.tmp 18) (S.get 5) r2 (fun r3 _ => K ⟨[(0, S.get 0), (1, S.get 1), (5, S.get 5), (6, S.get 6), (9, S.get 9), (10, S.get 10), (11, S.get 11), (19, r3)], S.hp, S.nx, S.gh⟩))) ?_
    all_goals
    refine Tri.cond rfl (fun h19 => ?_) (fun h19 => ?_)
    ·try (cases h19; done)
     all_goals (try simp only [CQ] at h19)
     all_goals
     refine sY [4] (fun P S K => K ⟨[(4, (.atom (.int .i64 1)))], S.hp, S.nx, S.gh⟩) ?_
     all_goals
     refine Tri.ret ?_
     show ResOk _ _ _ _
     exact ResOk.val (aI (by rw [hkj, lexi_end (by omega) hk hk2, if_neg (by omega), if_pos (by omega)])) rfl
    ·try (cases h19; done)
     all_goals (try simp only [CQ] at h19)
     all_goals
     refine Tri.skip ?_
     have hkb : k < b.length := by omega
     have hl : lexi a b = if li a k < li b k then -1 else if li b k < li a k then 1 else lexi (a.drop (k + 1)) (b.drop (k + 1)) := by rw [hkj, drop_li hka, drop_li hkb]; rfl
     refine sZ [0, 1, 6, 7, 9, 10, 11] (fun P S K => XvIndexAddr P 22 (S.get 1) (S.get 5) (fun r2 _ => XvLoad P 3 (M S.hp S.nx) r2 (fun r3 _ => K ⟨[(0, S.get 0), (1, S.get 1), (6, S.get 6), (7, r3), (9, S.get 9), (10, S.get 10), (11, S.get 11)], S.hp, S.nx, S.gh⟩))) fun K hK => ?_
     repeat' (first | (refine hK _ ?_; clear hK K) | refine And.intro ?_ ?_ | exact cl | (refine st ?_; try simp only [getD_encI hkb]) | simp only [getD_encI hkb])
     all_goals
     refine sZ [0, 1, 8, 9, 10, 11] (fun P S K => XvFnIV P (M S.hp S.nx) (.fn 69 []) [(S.get 6), (S.get 7)] (fun r2 ef2 => K ⟨[(0, S.get 0), (1, S.get 1), (8, r2), (9, S.get 9), (10, S.get 10), (11, S.get 11)], (Eff.hp ef2 S.nx S.hp), (S.nx + ef2.add.length), S.gh⟩)) fun K hK => ?_
     repeat' (first | (refine hK _ ?_; clear hK K) | refine And.intro ?_ ?_ | exact cl | refine .inl ⟨_, _, cmpCompare_pure _ _, ?_⟩ | refine st ?_)
     all_goals
     refine sY [0, 1, 8, 9, 10, 11, 28] (fun P S K => XvBinOV P .neq 3 (.const (.int .i64 0)) (S.get 8) (.atom (.int .i64 0)) (fun r1 _ => K ⟨[(0, S.get 0), (1, S.get 1), (8, S.get 8), (9, S.get 9), (10, S.get 10), (11, S.get 11), (28, r1)], S.hp, S.nx, S.gh⟩)) ?_
     all_goals
     refine Tri.cond rfl (fun h28 => ?_) (fun h28 => ?_)
     ·try (cases h28; done)
      all_goals (try simp only [CQ] at h28)
      all_goals
      refine sY [4] (fun P S K => K ⟨[(4, (S.get 8))], S.hp, S.nx, S.gh⟩) ?_
      all_goals
      refine Tri.ret ?_
      show ResOk _ _ _ _
      exact ResOk.val (aI (by rw [hl]; unfold cmpI at h28 ⊢; split <;> first | rfl | (split <;> first | rfl | (exfalso; simp_all)))) rfl
     ·try (cases h28; done)
      all_goals (try simp only [CQ] at h28)
      all_goals
      refine Tri.skip ?_
      refine rY [0, 1, 9, 10, 11] (fun P S K => XvBinOV P .add 3 (.const (.int .i64 1)) (S.get 11) (.atom (.int .i64 1)) (fun r0 _ => K ⟨[(0, S.get 0), (1, S.get 1), (9, S.get 9), (10, S.get 10), (11, r0)], S.hp, S.nx, S.gh⟩)) ?_
      all_goals try simp (disch := omega) only [wrap_id, wrap8_id]
      all_goals
      refine ⟨⟨k + 1, by omega, by rw [hl]; unfold cmpI at h28; split at h28 <;> first | omega | (split at h28 <;> first | omega | (rw [if_neg (by assumption), if_neg (by assumption)]))⟩, [], by dsimp only; omega, ?_⟩
      exact leqB30
   ·try (cases h12; done)
    all_goals (try simp only [CQ] at h12)
    all_goals
    refine Tri.exit ?_
    refine Tri.seq ?_
    refine sY [35] (fun P S K => XvLen P 22 (S.get 0) (fun r1 _ => XvLen P 22 (S.get 1) (fun r3 _ => XvBinOV P .lss 3 (.tmp 34) r1 r3 (fun r4 _ => K ⟨[(35, r4)], S.hp, S.nx, S.gh⟩)))) ?_
    all_goals
    refine Tri.cond rfl (fun h35 => ?_) (fun h35 => ?_)
    ·try (cases h35; done)
     all_goals (try simp only [CQ] at h35)
     all_goals
     refine sY [4] (fun P S K => K ⟨[(4, (.atom (.int .i64 (-1))))], S.hp, S.nx, S.gh⟩) ?_
     all_goals
     refine Tri.ret ?_
     show ResOk _ _ _ _
     exact ResOk.val (aI (by rw [hkj, lexi_end (by omega) hk hk2, if_pos (by omega)])) rfl
    ·try (cases h35; done)
     all_goals (try simp only [CQ] at h35)
     all_goals
     refine Tri.skip ?_
     refine sY [4] (fun P S K => K ⟨[(4, (.atom (.int .i64 0)))], S.hp, S.nx, S.gh⟩) ?_
     all_goals
     refine Tri.ret ?_
     show ResOk _ _ _ _
     exact ResOk.val (aI (by rw [hkj, lexi_end (by omega) hk hk2, if_neg (by omega), if_neg (by omega)])) rfl
def maxFrom (l : List Int) (k : Nat) : Int := (l.take k).foldl max (li l 0)
theorem maxFrom_succ {l : List Int} {k : Nat} (h : k < l.length) : maxFrom l (k + 1) = max (maxFrom l k) (li l k) := by
  unfold maxFrom
  rw [List.take_succ_eq_append_getElem h, List.foldl_append]
  simp [li, List.getD_eq_getElem?_getD, h]
theorem maxFrom_one (l : List Int) : maxFrom l 1 = li l 0 := by
  unfold maxFrom
  cases l with
  | nil => rfl
  | cons x l => simp [li]
theorem maxFrom_all {l : List Int} (h0 : 0 < l.length) (h : ∀ x, x ∈ l → 0 ≤ x) : maxFrom l l.length = greatest l := by
  unfold maxFrom greatest
  rw [List.take_length]
  cases l with
  | nil => simp at h0
  | cons x l =>
    have hx := h x (List.mem_cons_self ..)
    show l.foldl max (max (li (x :: l) 0) x) = l.foldl max (max 0 x)
    congr 1
    show max x x = max 0 x
    omega
theorem Max_pure (l : List Int) (h0 : 0 < l.length) (hl : l.length ≤ 1000000000) : Pure Try.prog 52 [ints l] (encI (maxFrom l l.length)) [] := by
  refine Pure.intro (ts := [2]) Try.func52 (by kernel_rfl) rfl rfl rfl (Nat.le_of_ble_eq_true rfl) ?_ ?_
  · simp [pure_ints, pure_strs, encI, encS, PV.pure, pureL]
  refine sY [0] (fun P S K => K ⟨[(0, S.get 0)], S.hp, S.nx, S.gh⟩) ?_
  all_goals
  refine Tri.seq ?_
  refine sZ [0, 7] (fun P S K => XvLen P 22 (S.get 0) (fun r1 _ => XvBinOV P .lss 3 (.const (.int .i64 1)) r1 (.atom (.int .i64 1)) (fun r2 _ => K ⟨[(0, S.get 0), (7, r2)], S.hp, S.nx, S.gh⟩))) fun K hK => ?_
  repeat' (first | (refine hK _ ?_; clear hK K) | refine And.intro ?_ ?_ | exact cl | simp (maxSteps := 2000000) only [↓SD, push_cast, Nat.reduceAdd, Nat.reduceSub, Nat.reduceMul, Nat.reduceLT, Nat.reduceLeDiff, Nat.reduceEqDiff, Int.reduceToNat, reduceIte, reduceCtorEq, Int.reduceLE, Int.reduceLT, Int.reduceNeg, ints, strs, encI, encS, dec_no (show ¬ (l.length : Int) < 1 by omega)])
  all_goals
  refine Tri.cond rfl (fun h7 => ?_) (fun h7 => ?_)
  ·try (cases h7; done)
   all_goals (try simp only [CQ] at h7)
   all_goals
   refine rY [0] (fun P S K => False) ?_
   all_goals
   have hk0 : 0 < l.length := h0
   refine sZ [0, 3] (fun P S K => XvIndexAddr P 22 (S.get 0) (.atom (.int .i64 0)) (fun r1 _ => XvLoad P 3 (M S.hp S.nx) r1 (fun r2 _ => K ⟨[(0, S.get 0), (3, r2)], S.hp, S.nx, S.gh⟩))) fun K hK => ?_
   repeat' (first | (refine hK _ ?_; clear hK K) | refine And.intro ?_ ?_ | exact cl | (refine st ?_; try simp only [getD_encI hk0]) | simp only [getD_encI hk0])
   all_goals
   refine Tri.seq ?_
   refine sY [0, 3, 4] (fun P S K => K ⟨[(0, S.get 0), (3, S.get 3), (4, (.atom (.int .i64 1)))], S.hp, S.nx, S.gh⟩) ?_
   all_goals
   refine Tri.block ?_
   refine Tri.loop (α := (k : Nat) ×' (1 ≤ k ∧ k ≤ l.length)) (fun z => (fun (k : Nat) => (⟨[(0, ints l), (3, encI (maxFrom l k)), (4, encI k)], [], 0, []⟩ : St)) z.1) (fun z => (fun (k : Nat) => l.length - k) z.1) ⟨1, ⟨Nat.le_refl _, h0⟩⟩ [] ?_ ?_
   ·dsimp only
    rw [show encI (maxFrom l 1) = encI (li l 0) by rw [maxFrom_one]]
    exact leqB30
   ·rintro ⟨k, ⟨hk1, hk⟩⟩
    refine Tri.seq ?_
    refine sY [0, 3, 4, 15] (fun P S K => XvLen P 22 (S.get 0) (fun r2 _ => XvBinOV P .lss 3 (.tmp 14) (S.get 4) r2 (fun r3 _ => K ⟨[(0, S.get 0), (3, S.get 3), (4, S.get 4), (15, r3)], S.hp, S.nx, S.gh⟩))) ?_
    all_goals
    refine Tri.cond rfl (fun h15 => ?_) (fun h15 => ?_)
    ·try (cases h15; done)
     all_goals (try simp only [CQ] at h15)
     all_goals
     refine Tri.skip ?_
     refine Tri.seq ?_
     refine Tri.block ?_
     have hkl : k < l.length := by omega
     refine rZ [0, 3, 4] (fun P S K => XvIndexAddr P 22 (S.get 0) (S.get 4) (fun r3 _ => XvLoad P 3 (M S.hp S.nx) r3 (fun r4 _ => XvMinMax true (S.get 3) r4 (fun r5 _ => K ⟨[(0, S.get 0), (3, r5), (4, S.get 4)], S.hp, S.nx, S.gh⟩)))) fun K hK => ?_
     repeat' (first | (refine hK _ ?_; clear hK K) | ((first | refine xG_intro (fun hg => ?_) (fun hg => ?_) | refine fun (hg : (_ : Prop)) => ?_) <;> ((try simp only [BQ] at hg); try (exfalso; omega))) | refine And.intro ?_ ?_ | exact cl | refine one_take ?_ _ | refine one_drop ?_ _ | (refine st ?_; try simp only [getD_encI hkl]) | simp only [getD_encI hkl])
     all_goals
     refine rY [0, 3, 4] (fun P S K => XvBinOV P .add 3 (.const (.int .i64 1)) (S.get 4) (.atom (.int .i64 1)) (fun r1 _ => K ⟨[(0, S.get 0), (3, S.get 3), (4, r1)], S.hp, S.nx, S.gh⟩)) ?_
     all_goals try simp (disch := omega) only [wrap_id, wrap8_id]
     all_goals
     rw [← maxFrom_succ hkl]
     refine ⟨⟨k + 1, by omega, by omega⟩, [], by dsimp only; omega, ?_⟩
     exact leqB30
    ·try (cases h15; done)
     all_goals (try simp only [CQ] at h15)
     all_goals
     refine Tri.exit ?_
     refine sY [2] (fun P S K => K ⟨[(2, (S.get 3))], S.hp, S.nx, S.gh⟩) ?_
     all_goals
     refine Tri.ret ?_
     show ResOk _ _ _ _
     rw [show l.length = k by omega]
     exact ResOk.val lsrB3 lpvB20
  ·try (cases h7; done)
   all_goals (try simp only [CQ] at h7)
   all_goals
   refine Tri.skip ?_
   have hk0 : 0 < l.length := h0
   refine sZ [0, 3] (fun P S K => XvIndexAddr P 22 (S.get 0) (.atom (.int .i64 0)) (fun r1 _ => XvLoad P 3 (M S.hp S.nx) r1 (fun r2 _ => K ⟨[(0, S.get 0), (3, r2)], S.hp, S.nx, S.gh⟩))) fun K hK => ?_
   repeat' (first | (refine hK _ ?_; clear hK K) | refine And.intro ?_ ?_ | exact cl | (refine st ?_; try simp only [getD_encI hk0]) | simp only [getD_encI hk0])
   all_goals
   refine Tri.seq ?_
   refine sY [0, 3, 4] (fun P S K => K ⟨[(0, S.get 0), (3, S.get 3), (4, (.atom (.int .i64 1)))], S.hp, S.nx, S.gh⟩) ?_
   all_goals
   refine Tri.block ?_
   refine Tri.loop (α := (k : Nat) ×' (1 ≤ k ∧ k ≤ l.length)) (fun z => (fun (k : Nat) => (⟨[(0, ints l), (3, encI (maxFrom l k)), (4, encI k)], [], 0, []⟩ : St)) z.1) (fun z => (fun (k : Nat) => l.length - k) z.1) ⟨1, ⟨Nat.le_refl _, h0⟩⟩ [] ?_ ?_
   ·dsimp only
    rw [show encI (maxFrom l 1) = encI (li l 0) by rw [maxFrom_one]]
    exact leqB30
   ·rintro ⟨k, ⟨hk1, hk⟩⟩
    refine Tri.seq ?_
    refine sY [0, 3, 4, 15] (fun P S K => XvLen P 22 (S.get 0) (fun r2 _ => XvBinOV P .lss 3 (.tmp 14) (S.get 4) r2 (fun r3 _ => K ⟨[(0, S.get 0), (3, S.get 3), (4, S.get 4), (15, r3)], S.hp, S.nx, S.gh⟩))) ?_
    all_goals
    refine Tri.cond rfl (fun h15 => ?_) (fun h15 => ?_)
    ·try (cases h15; done)
     all_goals (try simp only [CQ] at h15)
     all_goals
     refine Tri.skip ?_
     refine Tri.seq ?_
     refine Tri.block ?_
     have hkl : k < l.length := by omega
     refine rZ [0, 3, 4] (fun P S K => XvIndexAddr P 22 (S.get 0) (S.get 4) (fun r3 _ => XvLoad P 3 (M S.hp S.nx) r3 (fun r4 _ => XvMinMax true (S.get 3) r4 (fun r5 _ => K ⟨[(0, S.get 0), (3, r5), (4, S.get 4)], S.hp, S.nx, S.gh⟩)))) fun K hK => ?_
     repeat' (first | (refine hK _ ?_; clear hK K) | ((first | refine xG_intro (fun hg => ?_) (fun hg => ?_) | refine fun (hg : (_ : Prop)) => ?_) <;> ((try simp only [BQ] at hg); try (exfalso; omega))) | refine And.intro ?_ ?_ | exact cl | refine one_take ?_ _ | refine one_drop ?_ _ | (refine st ?_; try simp only [getD_encI hkl]) | simp only [getD_encI hkl])
     all_goals
     refine rY [0, 3, 4] (fun P S K => XvBinOV P .add 3 (.const (.int .i64 1)) (S.get 4) (.atom (.int .i64 1)) (fun r1 _ => K ⟨[(0, S.get 0), (3, S.get 3), (4, r1)], S.hp, S.nx, S.gh⟩)) ?_
     all_goals try simp (disch := omega) only [wrap_id, wrap8_id]
     all_goals
     rw [← maxFrom_succ hkl]
     refine ⟨⟨k + 1, by omega, by omega⟩, [], by dsimp only; omega, ?_⟩
     exact leqB30
    ·try (cases h15; done)
     all_goals (try simp only [CQ] at h15)
     all_goals
     refine Tri.exit ?_
     refine sY [2] (fun P S K => K ⟨[(2, (S.get 3))], S.hp, S.nx, S.gh⟩) ?_
     all_goals
     refine Tri.ret ?_
     show ResOk _ _ _ _
     rw [show l.length = k by omega]
     exact ResOk.val lsrB3 lpvB20
theorem Clone_own (l : List (Int × Int)) (hne : l ≠ []) (hl : l.length ≤ 1000000) : Pure Try.prog 72 [pairs l] (.ob 0 2 0 l.length) [⟨2, l.map encP⟩] := by
  obtain ⟨p, r, rfl⟩ := List.exists_cons_of_ne_nil hne
  have hl2 : r.length + 1 ≤ 1000000 := hl
  refine Pure.intro (ts := [2]) Try.func72 (by kernel_rfl) rfl rfl rfl (Nat.le_of_ble_eq_true rfl) ?_ ?_
  · simp [pure_pairs, PV.pure, pureL]
  refine sZ [0] (fun P S K => K ⟨[(0, S.get 0)], S.hp, S.nx, S.gh⟩) fun K hK => ?_
  repeat' (first | (refine hK _ ?_; clear hK K) | refine And.intro ?_ ?_ | exact cl | exact one_encP _ | (refine st ?_; try simp only [pairs, nilSl]) | simp only [pairs, nilSl])
  all_goals
  refine Tri.seq ?_
  refine sZ [0, 4] (fun P S K => XvBinOV P .eql 23 (.const (.slice none 0 0)) (S.get 0) (.atom (.slice none 0 0)) (fun r1 _ => K ⟨[(0, S.get 0), (4, r1)], S.hp, S.nx, S.gh⟩)) fun K hK => ?_
  repeat' (first | (refine hK _ ?_; clear hK K) | refine And.intro ?_ ?_ | exact cl | exact one_encP _ | (refine st ?_; try simp only [pairs, nilSl]) | simp only [pairs, nilSl])
  all_goals
  refine Tri.cond rfl (fun h4 => ?_) (fun h4 => ?_)
  ·try (cases h4; done)
   all_goals (try simp only [CQ] at h4)
   all_goals
   refine sZ [2] (fun P S K => K ⟨[(2, (.atom (.slice none 0 0)))], S.hp, S.nx, S.gh⟩) fun K hK => ?_
   repeat' (first | (refine hK _ ?_; clear hK K) | refine And.intro ?_ ?_ | exact cl | exact one_encP _ | (refine st ?_; try simp only [pairs, nilSl]) | simp only [pairs, nilSl])
   all_goals
   refine Tri.ret ?_
   show ResOk _ _ _ _
   exact ResOk.row 1 rfl rfl (pureL_encP (p :: r)) rfl
  ·try (cases h4; done)
   all_goals (try simp only [CQ] at h4)
   all_goals
   refine Tri.skip ?_
   refine sZ [2] (fun P S K => XvBuildS P 23 0 S.nx [] (fun r0 ef0 => (23 = 23 ∧ XvAppend P 23 (M (Eff.hp ef0 S.nx S.hp) (S.nx + ef0.add.length)) r0 (S.get 0) (fun r2 ef2 => K ⟨[(2, r2)], (Eff.hp ef2 (S.nx + ef0.add.length) (Eff.hp ef0 S.nx S.hp)), ((S.nx + ef0.add.length) + ef2.add.length), S.gh⟩)))) fun K hK => ?_
   repeat' (first | (refine hK _ ?_; clear hK K) | ((first | refine xG_intro (fun hg => ?_) (fun hg => ?_) | refine fun (hg : (_ : Prop)) => ?_) <;> ((try simp only [BQ] at hg); try (exfalso; omega))) | refine And.intro ?_ ?_ | exact cl | exact one_encP _ | refine one_take ?_ _ | refine one_drop ?_ _ | (refine st ?_; try simp only [pairs, nilSl]) | simp only [pairs, nilSl])
   all_goals
   refine Tri.ret ?_
   show ResOk _ _ _ _
   exact ResOk.row 1 rfl rfl (pureL_encP (p :: r)) rfl
theorem quick1_pure (c : CaseD) (x y : Int) (hx : 0 ≤ x ∧ x < c.sizes.length) (hy : 0 ≤ y ∧ y < c.sizes.length) : Pure Try.prog 68 [encI x, encI y, .fptr 3 [encC c] 0 0] (encI (szC c x y)) [] := by
  refine Pure.intro (ts := [5]) Try.func68 (by kernel_rfl) rfl rfl rfl (Nat.le_of_ble_eq_true rfl) ?_ ?_
  · simp [encI, PV.pure, pureL, pure_case]
  refine sY [0, 1, 2] (fun P S K => K ⟨[(0, S.get 0), (1, S.get 1), (2, S.get 2)], S.hp, S.nx, S.gh⟩) ?_
  all_goals
  refine sD 12 [5] (fun P GD S K => XvFieldAddr P 38 0 (S.get 2) (fun r0 ef0 => XvLoad P 22 (M S.hp S.nx) r0 (fun r1 ef1 => XvIndexAddr P 22 r1 (S.get 1) (fun r3 ef3 => XvLoad P 3 (M S.hp S.nx) r3 (fun r4 ef4 => XvFieldAddr P 38 0 (S.get 2) (fun r5 ef5 => XvLoad P 22 (M S.hp S.nx) r5 (fun r6 ef6 => XvIndexAddr P 22 r6 (S.get 0) (fun r8 ef8 => XvLoad P 3 (M S.hp S.nx) r8 (fun r9 ef9 => XvFnV P (M S.hp S.nx) (.fn 69 []) [r4, r9] (fun r10 ef10 => (trOk S.nx GD [⟨S.nx, 0, ef0.rd, [], []⟩, ⟨S.nx, 0, ef1.rd, [], []⟩, ⟨S.nx, 0, [], [], []⟩, ⟨S.nx, 0, ef3.rd, [], []⟩, ⟨S.nx, 0, ef4.rd, [], []⟩, ⟨S.nx, 0, ef5.rd, [], []⟩, ⟨S.nx, 0, ef6.rd, [], []⟩, ⟨S.nx, 0, [], [], []⟩, ⟨S.nx, 0, ef8.rd, [], []⟩, ⟨S.nx, 0, ef9.rd, [], []⟩, (Eff.tr ef10 S.nx), ⟨(S.nx + ef10.add.length), 0, [], [], []⟩] = true ∧ K ⟨[(5, r10)], (Eff.hp ef10 S.nx S.hp), (S.nx + ef10.add.length), S.gh⟩))))))))))) fun K hK => ?_
  repeat' (first | (refine hK _ ?_; clear hK K) | (refine (?_ : trOk _ _ _ = true); kernel_rfl) | refine And.intro ?_ ?_ | exact cl | refine .inl ⟨_, _, cmpCompare_pure (li c.sizes y.toNat) (li c.sizes x.toNat), ?_⟩ | refine ⟨_, _, cmpCompare_pure (li c.sizes y.toNat) (li c.sizes x.toNat), ?_⟩ | (refine st ?_; try simp only [encC, getD_encI (show y.toNat < c.sizes.length by omega), getD_encI (show x.toNat < c.sizes.length by omega)]) | simp only [encC, getD_encI (show y.toNat < c.sizes.length by omega), getD_encI (show x.toNat < c.sizes.length by omega)])
  all_goals
  refine Tri.ret ?_
  show ResOk _ _ _ _
  unfold szC; exact ResOk.val lsrB3 lpvB20
theorem quick2_pure (loads : List Int) (x y : Int) (hx : 0 ≤ x ∧ x < loads.length) (hy : 0 ≤ y ∧ y < loads.length) : Pure Try.prog 70 [encI x, encI y, .fptr 1 [ints loads] 0 0] (encI (ldC loads x y)) [] := by
  refine Pure.intro (ts := [5]) Try.func70 (by kernel_rfl) rfl rfl rfl (Nat.le_of_ble_eq_true rfl) ?_ ?_
  · simp [encI, PV.pure, pureL, pureL_encI, pure_ints]
  refine sY [0, 1, 2] (fun P S K => K ⟨[(0, S.get 0), (1, S.get 1), (2, S.get 2)], S.hp, S.nx, S.gh⟩) ?_
  all_goals
  refine sD 10 [5] (fun P GD S K => XvLoad P 22 (M S.hp S.nx) (S.get 2) (fun r0 ef0 => XvIndexAddr P 22 r0 (S.get 0) (fun r2 ef2 => XvLoad P 3 (M S.hp S.nx) r2 (fun r3 ef3 => XvLoad P 22 (M S.hp S.nx) (S.get 2) (fun r4 ef4 => XvIndexAddr P 22 r4 (S.get 1) (fun r6 ef6 => XvLoad P 3 (M S.hp S.nx) r6 (fun r7 ef7 => XvFnV P (M S.hp S.nx) (.fn 69 []) [r3, r7] (fun r8 ef8 => (trOk S.nx GD [⟨S.nx, 0, ef0.rd, [], []⟩, ⟨S.nx, 0, [], [], []⟩, ⟨S.nx, 0, ef2.rd, [], []⟩, ⟨S.nx, 0, ef3.rd, [], []⟩, ⟨S.nx, 0, ef4.rd, [], []⟩, ⟨S.nx, 0, [], [], []⟩, ⟨S.nx, 0, ef6.rd, [], []⟩, ⟨S.nx, 0, ef7.rd, [], []⟩, (Eff.tr ef8 S.nx), ⟨(S.nx + ef8.add.length), 0, [], [], []⟩] = true ∧ K ⟨[(5, r8)], (Eff.hp ef8 S.nx S.hp), (S.nx + ef8.add.length), S.gh⟩))))))))) fun K hK => ?_
  repeat' (first | (refine hK _ ?_; clear hK K) | (refine (?_ : trOk _ _ _ = true); kernel_rfl) | refine And.intro ?_ ?_ | exact cl | refine .inl ⟨_, _, cmpCompare_pure (li loads x.toNat) (li loads y.toNat), ?_⟩ | refine ⟨_, _, cmpCompare_pure (li loads x.toNat) (li loads y.toNat), ?_⟩ | (refine st ?_; try simp only [getD_encI (show y.toNat < loads.length by omega), getD_encI (show x.toNat < loads.length by omega)]) | simp only [getD_encI (show y.toNat < loads.length by omega), getD_encI (show x.toNat < loads.length by omega)])
  all_goals
  refine Tri.ret ?_
  show ResOk _ _ _ _
  unfold ldC; exact ResOk.val lsrB3 lpvB20
end Go.Proofs.Ytcdeilgijleoaaa
