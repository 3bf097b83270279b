/-
  Plain: the search of package assign and that of the reference model are the same; what they find is least.
-/
import Derived.Test.YtcdeilgijleoaaaQB13
import Derived.Test.YtcdeilgijleoaaaQVR
import Derived.Test.YtcdeilgijleoaaaQB16
import Derived.Test.YtcdeilgijleoaaaQB23
set_option linter.all false
namespace Go.Proofs.Ytcdeilgijleoaaa
open Go Go.RowKit
set_option linter.unusedSimpArgs false
set_option linter.unusedVariables false
set_option maxRecDepth 20000
theorem foldl_max_le : ∀ (l : List Int) (a m : Int), a ≤ m → (∀ x, x ∈ l → x ≤ m) → l.foldl max a ≤ m
  | [], a, m, h, _ => h
  | y :: l, a, m, h, hl => foldl_max_le l (max a y) m (by have := hl y (List.mem_cons_self ..); omega) fun x hx => hl x (List.mem_cons_of_mem _ hx)
theorem le_foldl_max : ∀ (l : List Int) (a : Int), a ≤ l.foldl max a ∧ ∀ x, x ∈ l → x ≤ l.foldl max a
  | [], a => ⟨Int.le_refl _, fun x hx => by cases hx⟩
  | y :: l, a => by
    obtain ⟨h1, h2⟩ := le_foldl_max l (max a y)
    have h1' : max a y ≤ List.foldl max a (y :: l) := h1
    refine ⟨by omega, fun x hx => ?_⟩
    rcases List.mem_cons.1 hx with rfl | hx
    · omega
    · exact h2 x hx
theorem greatest_le {l : List Int} {m : Int} (h0 : 0 ≤ m) (h : ∀ x, x ∈ l → x ≤ m) : greatest l ≤ m := foldl_max_le l 0 m h0 h
theorem greatest_nonneg (l : List Int) : 0 ≤ greatest l := (le_foldl_max l 0).1
structure LoadOk (c : CaseD) (loads : List Int) : Prop where
  len : loads.length = c.people.toNat
  pos : ∀ x, x ∈ loads → 0 ≤ x
theorem li_addAt (l : List Int) (k v : Int) {j : Nat} (h : j < l.length) : li (addAt l k v) j = li l j + if j = k.toNat then v else 0 := by
  unfold addAt li
  rw [List.getD_eq_getElem?_getD, List.getElem?_set]
  by_cases hj : k.toNat = j
  · subst hj; simp [h, List.getD_eq_getElem?_getD]
  · rw [if_neg hj, if_neg (fun e => hj e.symm), Int.add_zero, List.getD_eq_getElem?_getD]
theorem mem_li {l : List Int} {x : Int} (h : x ∈ l) : ∃ j, j < l.length ∧ x = li l j := by
  obtain ⟨j, hj, rfl⟩ := List.getElem_of_mem h
  exact ⟨j, hj, by simp [li, List.getD_eq_getElem?_getD, hj]⟩
theorem loadStep_len (c : CaseD) (l : List Int) (i : Nat) (p : Int × Int) : (loadStep c l i p).length = l.length := by unfold loadStep; rw [addAt_len, addAt_len]
theorem li_loadStep (c : CaseD) (l : List Int) (i : Nat) (p : Int × Int) {j : Nat} (h : j < l.length) : li (loadStep c l i p) j = li l j + (if j = p.1.toNat then li c.sizes i else 0) + if j = p.2.toNat then li c.sizes i else 0 := by
  unfold loadStep
  rw [li_addAt _ _ _ (by rw [addAt_len]; exact h), li_addAt _ _ _ h]
theorem size_pos {c : CaseD} (hs : ∀ x, x ∈ c.sizes → 0 ≤ x) (i : Nat) : 0 ≤ li c.sizes i := by
  by_cases h : i < c.sizes.length
  · exact hs _ (li_mem h)
  · have : li c.sizes i = 0 := by unfold li; simp [List.getD_eq_getElem?_getD, h]
    omega
theorem LoadOk.step {c : CaseD} {loads : List Int} (h : LoadOk c loads) (hs : ∀ x, x ∈ c.sizes → 0 ≤ x) (i : Nat) (p : Int × Int) : LoadOk c (loadStep c loads i p) := by
  refine ⟨by rw [loadStep_len, h.len], fun x hx => ?_⟩
  obtain ⟨j, hj, rfl⟩ := mem_li hx
  rw [loadStep_len] at hj
  rw [li_loadStep c loads i p hj]
  have := h.pos _ (li_mem hj)
  have := size_pos hs i
  split <;> split <;> omega
end Go.Proofs.Ytcdeilgijleoaaa
set_option linter.all false
namespace Go.Proofs.Ytcdeilgijleoaaa
open Go Go.RowKit
set_option linter.unusedSimpArgs false
set_option linter.unusedVariables false
set_option maxRecDepth 20000
set_option maxHeartbeats 1000000
theorem leqB35 {p : Prop} (h : p := by (refine ⟨4, ?_, ?_, rfl, by simp, rfl, fun _ h _ => absurd h (Nat.not_lt_zero _)⟩ <;> (simp only [List.forall_mem_cons]; repeat' (first | refine And.intro ?_ ?_ | (intro p hp; exact absurd hp List.not_mem_nil) | rfl | exact sp (pure_case _) | exact sp (pure_pairs _) | exact sp (pure_cert _) | exact (sealed_pure _ _ _ (pure_ints _)).trans (ren_ints _ _).symm | exact (sealed_pure _ _ _ (pure_strs _)).trans (ren_strs _ _).symm | exact sp (by assumption) | (intro o ho; cases ho; refine ⟨by decide, ?_⟩; first | (refine LeqS.row rfl ?_ ?_; (next => (first | rfl | (simp only [List.map_append, List.map_cons, List.map_nil, List.append_nil, List.nil_append, List.append_assoc, List.cons_append, encI, encS, ints, strs]; done) | (simp [encI, encS, ints, strs, encP]; done))); (next => (first | rfl | exact pureL_encI _ | exact pureL_encS _ | exact pureL_ints _ | exact pureL_strs _ | exact pureL_encP _ | (simp [pureL_append, pureL_encI, pureL_encS, pureL_ints, pureL_strs, pureL, PV.pure, pure_ints, pure_strs, pure_case, pureL_encP, pure_pairs, pure_cert]; done))); done) | refine ⟨_, rfl, rfl, ?_⟩) | (simp [St.born, St.known, retV, St.get, St.obj, lk, sealed, PV.ren, renL, rmap, AO.ren, ints, strs, encI, encS, map_sealed_encI, map_sealed_encS, map_sealed_ints, map_sealed_strs, map_ren_encI, map_ren_encS, map_ren_ints, map_ren_strs, renL_encI, renL_encS, renL_ints, renL_strs, ren_case, encC, pairs, renL_encP, map_sealed_encP, map_ren_encP, encP, take_map_len, encCert] <;> omega)))); first | done | fail) : p := h
theorem lsrB35 {p : Prop} (h : p := by (first | rfl | (simp [St.born, St.known, retV, St.get, St.obj, lk, sealed, PV.ren, renL, rmap, AO.ren, ints, strs, encI, encS, map_sealed_encI, map_sealed_encS, map_sealed_ints, map_sealed_strs, map_ren_encI, map_ren_encS, map_ren_ints, map_ren_strs, renL_encI, renL_encS, renL_ints, renL_strs, ren_case, encC, pairs, renL_encP, map_sealed_encP, map_ren_encP, encP, take_map_len, encCert]; done)); first | done | fail) : p := h
theorem lpvB35 {p : Prop} (h : p := by (first | rfl | (simp [pure_ints, pure_strs, PV.pure, pureL, pureL_encI, pureL_encS, pureL_ints, pureL_strs, pure_case, pureL_encP, pure_pairs, pure_cert]; done)); first | done | fail) : p := h
def stepOk (l : List Int) (n : Int) (k : Nat) : Prop := 0 ≤ li l k ∧ li l k < n ∧ (0 < k → li l ((k : Int) - 1).toNat < li l k)
def IncP (l : List Int) (n : Int) : Prop := ∀ k, k < l.length → stepOk l n k
noncomputable def incB (l : List Int) (n : Int) : Bool := @decide (IncP l n) (Classical.propDecidable _)
theorem incB_yes {l : List Int} {n : Int} (h : IncP l n) : incB l n = true := @decide_eq_true _ (Classical.propDecidable _) h
theorem incB_no {l : List Int} {n : Int} (h : ¬ IncP l n) : incB l n = false := @decide_eq_false _ (Classical.propDecidable _) h
theorem incB_at {l : List Int} {n : Int} {k : Nat} (hk : k < l.length) (h : ¬ stepOk l n k) : incB l n = false := incB_no fun hp => h (hp k hk)
theorem incB_mem {l : List Int} {n : Int} (h : incB l n = true) : ∀ x, x ∈ l → 0 ≤ x ∧ x < n := fun x hx => by
  have hp : IncP l n := @of_decide_eq_true _ (Classical.propDecidable _) h
  obtain ⟨k, hk, rfl⟩ := List.getElem_of_mem hx
  have := hp k hk
  rw [stepOk, show li l k = l[k] by simp [li, List.getD_eq_getElem?_getD, hk]] at this
  exact ⟨this.1, this.2.1⟩
structure Sane (x : CertD) : Prop where
  some : x.some.length ≤ 1000
  people : x.people.length ≤ 1000
  least : I64 x.least
def valS (c : CaseD) (x : CertD) : Int := if x.people.length = 0 then li c.sizes (li x.some 0).toNat else countedS c x.some x.people
noncomputable def wrongX (c : CaseD) (x : CertD) : Bool := !incB x.some c.sizes.length || !incB x.people c.people || (decide (x.people.length = 0) && decide (x.some.length ≠ 1))
noncomputable def boundE (c : CaseD) (x : CertD) : Int := if validC c ≠ 0 then validC c else if wrongX c x = true then 17 else if valS c x ≠ x.least then 17 else 0
noncomputable def boundN (c : CaseD) (x : CertD) : Int := if boundE c x = 0 then valS c x else 0
theorem counted_rng {c : CaseD} (hG : Good c) (ts people : List Int) (hs : ts.length ≤ 1000) (hp : people.length ≤ 1000) : 0 ≤ countedS c ts people ∧ countedS c ts people ≤ 3000000 := by
  have h1 := sumK_rng hG ts people ts.length (Nat.le_refl _)
  rw [sumK_all] at h1
  unfold countedS
  rcases Nat.eq_zero_or_pos people.length with h0 | h0
  · rw [h0]; simp
  · have h2 : 0 ≤ (sumS c ts people + people.length - 1).tdiv people.length := Int.tdiv_nonneg (by omega) (by omega)
    have h3 : (sumS c ts people + people.length - 1).tdiv people.length ≤ sumS c ts people + people.length - 1 := Int.tdiv_le_self _ (by omega)
    omega
theorem val_rng {c : CaseD} (hG : Good c) (x : CertD) (hx : Sane x) : 0 ≤ valS c x ∧ valS c x ≤ 3000000 := by
  unfold valS
  split
  · have := li_rng (l := c.sizes) (m := 0) (M := 1024) (fun x hx => by have := hG.size x hx; omega) (by omega) (li x.some 0).toNat
    omega
  · exact counted_rng hG _ _ hx.some hx.people
theorem boundE_case {c : CaseD} {x : CertD} (h : validC c ≠ 0) : boundE c x = validC c := if_pos h
theorem boundE_wrong {c : CaseD} {x : CertD} (h : validC c = 0) (h2 : wrongX c x = true) : boundE c x = 17 := by unfold boundE; rw [if_neg (by omega), if_pos h2]
theorem boundE_least {c : CaseD} {x : CertD} (h : validC c = 0) (h3 : valS c x ≠ x.least) : boundE c x = 17 := by unfold boundE; rw [if_neg (by omega), if_pos h3]; split <;> rfl
theorem boundE_ok {c : CaseD} {x : CertD} (h : validC c = 0) (h2 : ¬ wrongX c x = true) (h3 : valS c x = x.least) : boundE c x = 0 := by unfold boundE; rw [if_neg (by omega), if_neg h2, if_neg (by omega)]
theorem boundN_no {c : CaseD} {x : CertD} (h : boundE c x ≠ 0) : boundN c x = 0 := if_neg h
theorem boundN_ok {c : CaseD} {x : CertD} (h : boundE c x = 0) : boundN c x = valS c x := if_pos h
theorem wrong_a {c : CaseD} {x : CertD} (h : incB x.some c.sizes.length = false) : wrongX c x = true := by unfold wrongX; rw [h]; rfl
theorem wrong_b {c : CaseD} {x : CertD} (h : incB x.people c.people = false) : wrongX c x = true := by unfold wrongX; rw [h]; cases incB x.some c.sizes.length <;> rfl
theorem wrong_c {c : CaseD} {x : CertD} (h : x.people.length = 0) (h1 : ¬ x.some.length = 1) : wrongX c x = true := by
  unfold wrongX; rw [dec_yes h, dec_yes h1]; cases incB x.some c.sizes.length <;> cases incB x.people c.people <;> rfl
theorem wrong_no {c : CaseD} {x : CertD} (hA : incB x.some c.sizes.length = true) (hB : incB x.people c.people = true) (h : ¬ x.people.length = 0 ∨ x.some.length = 1) : ¬ wrongX c x = true := by
  unfold wrongX; rw [hA, hB]
  rcases h with h | h
  · rw [dec_no h]; simp
  · rw [dec_no (show ¬ x.some.length ≠ 1 by omega)]; cases decide (x.people.length = 0) <;> decide
theorem bound_wrong {c : CaseD} {x : CertD} (h : validC c = 0) (h2 : wrongX c x = true) : boundN c x = 0 ∧ boundE c x = 17 := by
  have := boundE_wrong h h2
  exact ⟨boundN_no (by omega), this⟩
theorem bound_least {c : CaseD} {x : CertD} (h : validC c = 0) (h2 : valS c x ≠ x.least) : boundN c x = 0 ∧ boundE c x = 17 := by
  have := boundE_least h h2
  exact ⟨boundN_no (by omega), this⟩
theorem bound_ok {c : CaseD} {x : CertD} (h : validC c = 0) (h2 : ¬ wrongX c x = true) (h3 : valS c x = x.least) : boundN c x = valS c x ∧ boundE c x = 0 := by
  have := boundE_ok h h2 h3
  exact ⟨boundN_ok this, this⟩
theorem val_none {c : CaseD} {x : CertD} (h : x.people.length = 0) : valS c x = li c.sizes (li x.some 0).toNat := if_pos h
theorem val_some {c : CaseD} {x : CertD} (h : 0 < x.people.length) : valS c x = countedS c x.some x.people := if_neg (by omega)
theorem boundN_rng (c : CaseD) (x : CertD) (hx : Sane x) : 0 ≤ boundN c x ∧ boundN c x ≤ 3000000 := by
  unfold boundN
  split
  · rename_i h
    have hv : validC c = 0 := Classical.byContradiction fun hv => hv (by rw [← boundE_case (x := x) hv]; exact h)
    exact val_rng (valid_good hv) x hx
  · omega
noncomputable def checkE (c : CaseD) (ps : List (Int × Int)) (x : CertD) : Int := if loadsE c ps ≠ 0 then loadsE c ps else boundE c x
noncomputable def checkN (c : CaseD) (ps : List (Int × Int)) (x : CertD) : Int := if checkE c ps x = 0 then greatest (loadsR c ps) - boundN c x else 0
theorem increasing_pure (l : List Int) (n : Int) (hl : l.length ≤ 1000000) : Pure Try.prog 56 [ints l, encI n] (.atom (.bool (incB l n))) [] := by
  refine Pure.intro (ts := [4]) Try.func56 (by kernel_rfl) rfl rfl rfl (Nat.le_of_ble_eq_true rfl) ?_ ?_
  · simp [pure_ints, pure_strs, encI, encS, PV.pure, pureL]
  refine sY [0, 1] (fun P S K => K ⟨[(0, S.get 0), (1, S.get 1)], S.hp, S.nx, S.gh⟩) ?_
  all_goals
  refine Tri.seq ?_
  refine sY [0, 1, 5] (fun P S K => K ⟨[(0, S.get 0), (1, S.get 1), (5, (.atom (.int .i64 0)))], S.hp, S.nx, S.gh⟩) ?_
  all_goals
  refine Tri.block ?_
  refine Tri.loop (α := (k : Nat) ×' (k ≤ l.length ∧ ∀ j, j < k → stepOk l n j)) (fun z => (fun (k : Nat) => (⟨[(0, ints l), (1, encI n), (5, encI k)], [], 0, []⟩ : St)) z.1) (fun z => (fun (k : Nat) => l.length - k) z.1) ⟨0, ⟨Nat.zero_le _, fun j hj => absurd hj (Nat.not_lt_zero _)⟩⟩ [] ?_ ?_
  ·exact leqB35
  ·rintro ⟨k, ⟨hk, hno⟩⟩
   refine Tri.seq ?_
   refine sY [0, 1, 5, 9] (fun P S K => XvLen P 22 (S.get 0) (fun r2 _ => XvBinOV P .lss 3 (.tmp 8) (S.get 5) r2 (fun r3 _ => K ⟨[(0, S.get 0), (1, S.get 1), (5, S.get 5), (9, r3)], S.hp, S.nx, S.gh⟩))) ?_
   all_goals
   refine Tri.cond rfl (fun h9 => ?_) (fun h9 => ?_)
   ·try (cases h9; done)
    all_goals (try simp only [CQ] at h9)
    all_goals
    refine Tri.skip ?_
    refine Tri.seq ?_
    refine Tri.block ?_
    have hkl : k < l.length := by omega
    have hcs : li l k < 0 ∨ (0 ≤ li l k ∧ n ≤ li l k) ∨ ((0 ≤ li l k ∧ li l k < n ∧ k = 0) ∧ decide ((0 : Int) < (k : Int)) = false) ∨ ((0 ≤ li l k ∧ li l k < n ∧ 0 < k) ∧ decide ((0 : Int) < (k : Int)) = true) := by
      simp only [decide_eq_false_iff_not, decide_eq_true_eq]; omega
    obtain hx | hx | ⟨hx, hz⟩ | ⟨hx, hz⟩ := hcs
    all_goals
    refine sD 29 [0, 1, 5, 40] (fun P GD S K => XvIndexAddr P 22 (S.get 0) (S.get 5) (fun r2 ef2 => XvLoad P 3 (M S.hp S.nx) r2 (fun r3 ef3 => XvBinOV P .lss 3 (.const (.int .i64 0)) r3 (.atom (.int .i64 0)) (fun r4 ef4 => Xge r4 false (fun k => k (S.get 0) e0) (fun g6 r6 ef6 => Xge g6 false (fun k => k (S.get 5) e0) (fun g7 r7 ef7 => Xge g7 false (fun k => XvIndexAddr P 22 r6 r7 k) (fun g8 r8 ef8 => Xge g8 false (fun k => XvLoad P 3 (M S.hp S.nx) r8 k) (fun g9 r9 ef9 => Xge g9 false (fun k => k (S.get 1) e0) (fun g10 r10 ef10 => Xge g10 false (fun k => XvBinOV P .geq 3 (.tmp 22) r9 r10 k) (fun g11 r11 ef11 => XvPick g11 (.atom (.bool true)) r11 (fun r12 ef12 => Xge r12 false (fun k => k (S.get 5) e0) (fun g14 r14 ef14 => Xge g14 false (fun k => XvBinOV P .gtr 3 (.const (.int .i64 0)) r14 (.atom (.int .i64 0)) k) (fun g15 r15 ef15 => Xge g15 false (fun k => k r15 e0) (fun g16 r16 ef16 => Xge r16 true (fun k => k (S.get 0) e0) (fun g17 r17 ef17 => Xge g17 true (fun k => k (S.get 5) e0) (fun g18 r18 ef18 => Xge g18 true (fun k => XvIndexAddr P 22 r17 r18 k) (fun g19 r19 ef19 => Xge g19 true (fun k => XvLoad P 3 (M S.hp S.nx) r19 k) (fun g20 r20 ef20 => Xge g20 true (fun k => k (S.get 0) e0) (fun g21 r21 ef21 => Xge g21 true (fun k => k (S.get 5) e0) (fun g22 r22 ef22 => Xge g22 true (fun k => XvBinOV P .sub 3 (.const (.int .i64 1)) r22 (.atom (.int .i64 1)) k) (fun g23 r23 ef23 => Xge g23 true (fun k => XvIndexAddr P 22 r21 r23 k) (fun g24 r24 ef24 => Xge g24 true (fun k => XvLoad P 3 (M S.hp S.nx) r24 k) (fun g25 r25 ef25 => Xge g25 true (fun k => XvBinOV P .leq 3 (.tmp 37) r20 r25 k) (fun g26 r26 ef26 => Xge g16 false (fun k => XvPick g26 r26 (.atom (.bool false)) k) (fun g27 r27 ef27 => XvPick g27 (.atom (.bool true)) r27 (fun r28 ef28 => (trOk S.nx GD [⟨S.nx, 0, [], [], []⟩, ⟨S.nx, 0, [], [], []⟩, ⟨S.nx, 0, ef2.rd, [], []⟩, ⟨S.nx, 0, ef3.rd, [], []⟩, ⟨S.nx, 0, ef4.rd, [], []⟩, ⟨S.nx, 0, [], [], []⟩, ⟨S.nx, 0, ef6.rd, [], []⟩, ⟨S.nx, 0, ef7.rd, [], []⟩, ⟨S.nx, 0, ef8.rd, [], []⟩, ⟨S.nx, 0, ef9.rd, [], []⟩, ⟨S.nx, 0, ef10.rd, [], []⟩, ⟨S.nx, 0, ef11.rd, [], []⟩, ⟨S.nx, 0, ef12.rd, [], []⟩, ⟨S.nx, 0, [], [], []⟩, ⟨S.nx, 0, ef14.rd, [], []⟩, ⟨S.nx, 0, ef15.rd, [], []⟩, ⟨S.nx, 0, ef16.rd, [], []⟩, ⟨S.nx, 0, ef17.rd, [], []⟩, ⟨S.nx, 0, ef18.rd, [], []⟩, ⟨S.nx, 0, ef19.rd, [], []⟩, ⟨S.nx, 0, ef20.rd, [], []⟩, ⟨S.nx, 0, ef21.rd, [], []⟩, ⟨S.nx, 0, ef22.rd, [], []⟩, ⟨S.nx, 0, ef23.rd, [], []⟩, ⟨S.nx, 0, ef24.rd, [], []⟩, ⟨S.nx, 0, ef25.rd, [], []⟩, ⟨S.nx, 0, ef26.rd, [], []⟩, ⟨S.nx, 0, ef27.rd, [], []⟩, ⟨S.nx, 0, ef28.rd, [], []⟩] = true ∧ K ⟨[(0, S.get 0), (1, S.get 1), (5, S.get 5), (40, r28)], S.hp, S.nx, S.gh⟩))))))))))))))))))))))))))) fun K hK => ?_
    repeat' (first | (refine hK _ ?_; clear hK K) | (refine (?_ : trOk _ _ _ = true); kernel_rfl) | ((first | refine xG_intro (fun hg => ?_) (fun hg => ?_) | refine fun (hg : (_ : Prop)) => ?_) <;> ((try simp only [BQ] at hg); try (exfalso; omega))) | refine And.intro ?_ ?_ | exact cl | refine one_take ?_ _ | refine one_drop ?_ _ | (refine st ?_; try simp only [↓SE, getD_encI hkl, dec_no (show ¬ li l k < 0 by omega), dec_no (show ¬ n ≤ li l k by omega), hz, wrap_id (x := (k : Int) - 1) (by omega) (by omega), getD_encI (show ((k : Int) - 1).toNat < l.length by omega)]; try simp only [↓SE, getD_encI hkl, dec_yes hx]; try simp only [↓SE, getD_encI hkl, dec_no (show ¬ li l k < 0 by omega), dec_yes hx.2]) | simp only [↓SE, getD_encI hkl, dec_no (show ¬ li l k < 0 by omega), dec_no (show ¬ n ≤ li l k by omega), hz, wrap_id (x := (k : Int) - 1) (by omega) (by omega), getD_encI (show ((k : Int) - 1).toNat < l.length by omega)] | simp only [↓SE, getD_encI hkl, dec_yes hx] | simp only [↓SE, getD_encI hkl, dec_no (show ¬ li l k < 0 by omega), dec_yes hx.2])
    all_goals try simp (disch := omega) only [wrap_id, wrap8_id]
    all_goals
    refine Tri.cond rfl (fun h40 => ?_) (fun h40 => ?_)
    ·try (cases h40; done)
     all_goals (try simp only [CQ] at h40)
     all_goals
     refine sY [4] (fun P S K => K ⟨[(4, (.atom (.bool false)))], S.hp, S.nx, S.gh⟩) ?_
     all_goals
     refine Tri.ret ?_
     show ResOk _ _ _ _
     rw [incB_at hkl (fun hs => by obtain ⟨s1, s2, s3⟩ := hs; have := s3 (by omega); omega)]
     exact ResOk.val lsrB35 lpvB35
    ·try (cases h40; done)
     all_goals (try simp only [CQ] at h40)
     all_goals
     refine Tri.skip ?_
     refine rY [0, 1, 5] (fun P S K => XvBinOV P .add 3 (.const (.int .i64 1)) (S.get 5) (.atom (.int .i64 1)) (fun r1 _ => K ⟨[(0, S.get 0), (1, S.get 1), (5, r1)], S.hp, S.nx, S.gh⟩)) ?_
     all_goals try simp (disch := omega) only [wrap_id, wrap8_id]
     all_goals
     refine ⟨⟨k + 1, by omega, fun j hj => ?_⟩, [], by dsimp only; omega, ?_⟩
     · rcases Nat.lt_succ_iff_lt_or_eq.1 hj with hj | rfl
       · exact hno j hj
       · exact ⟨by omega, by omega, fun _ => by omega⟩
     · exact leqB35
   ·try (cases h9; done)
    all_goals (try simp only [CQ] at h9)
    all_goals
    refine Tri.exit ?_
    have hke : k = l.length := by omega
    refine sY [4] (fun P S K => K ⟨[(4, (.atom (.bool true)))], S.hp, S.nx, S.gh⟩) ?_
    all_goals
    refine Tri.ret ?_
    show ResOk _ _ _ _
    rw [incB_yes (fun j hj => hno j (by omega))]
    exact ResOk.val lsrB35 lpvB35
theorem rBound_pure (c : CaseD) (x : CertD) (hc : Held c) (hx : Sane x) : Pure Try.prog 30 [encC c, encCert x] (.tup [encI (boundN c x), encI (boundE c x)]) [] := by
  have hsl := hc.sizes
  have hxs := hx.some
  have hxp := hx.people
  refine Pure.intro (ts := [4, 5]) Try.func30 (by kernel_rfl) rfl rfl rfl (Nat.le_of_ble_eq_true rfl) ?_ ?_
  · simp [pure_case, pure_cert, encI, PV.pure, pureL]
  refine sZ [2, 3] (fun P S K => XvBox S.nx (S.get 0) (fun r0 ef0 => XvBox (S.nx + ef0.add.length) (S.get 1) (fun r1 ef1 => K ⟨[(2, r0), (3, r1)], (Eff.hp ef1 (S.nx + ef0.add.length) (Eff.hp ef0 S.nx S.hp)), ((S.nx + ef0.add.length) + ef1.add.length), S.gh⟩))) fun K hK => ?_
  repeat' (first | (refine hK _ ?_; clear hK K) | ((first | refine xG_intro (fun hg => ?_) (fun hg => ?_) | refine fun (hg : (_ : Prop)) => ?_) <;> ((try simp only [BQ, List.length_map] at hg); try (cases hg; done); try (exfalso; omega))) | refine And.intro ?_ ?_ | exact cl | refine one_take ?_ _ | refine one_drop ?_ _ | (refine st ?_; try simp only [encC, encCert, pairs]) | simp only [encC, encCert, pairs])
  all_goals
  refine sZ [2, 3, 6] (fun P S K => XvLoad P 25 (M S.hp S.nx) (S.get 2) (fun r0 _ => XvFnIV P (M S.hp S.nx) (.fn 17 []) [r0] (fun r1 ef1 => K ⟨[(2, S.get 2), (3, S.get 3), (6, r1)], (Eff.hp ef1 S.nx S.hp), (S.nx + ef1.add.length), S.gh⟩))) fun K hK => ?_
  repeat' (first | (refine hK _ ?_; clear hK K) | ((first | refine xG_intro (fun hg => ?_) (fun hg => ?_) | refine fun (hg : (_ : Prop)) => ?_) <;> ((try simp only [BQ, List.length_map] at hg); try (cases hg; done); try (exfalso; omega))) | refine And.intro ?_ ?_ | exact cl | refine one_take ?_ _ | refine one_drop ?_ _ | refine .inl ⟨_, _, rValid_pure c hc, ?_⟩ | refine ⟨_, _, rValid_pure c hc, ?_⟩ | refine .inl ⟨_, _, hI1, ?_⟩ | refine ⟨_, _, hI1, ?_⟩ | refine .inl ⟨_, _, hI2, ?_⟩ | refine ⟨_, _, hI2, ?_⟩ | (refine st ?_; try simp only [encC, encCert, pairs]) | simp only [encC, encCert, pairs])
  all_goals
  refine Tri.seq ?_
  refine sY [2, 3, 6, 11] (fun P S K => XvBinOV P .neq 32 (.const (.int .i64 0)) (S.get 6) (.atom (.int .i64 0)) (fun r1 _ => K ⟨[(2, S.get 2), (3, S.get 3), (6, S.get 6), (11, r1)], S.hp, S.nx, S.gh⟩)) ?_
  all_goals
  refine Tri.cond rfl (fun h11 => ?_) (fun h11 => ?_)
  ·try (cases h11; done)
   all_goals (try simp only [CQ] at h11)
   all_goals
   refine sY [4, 5] (fun P S K => K ⟨[(4, (.atom (.int .i64 0))), (5, (S.get 6))], S.hp, S.nx, S.gh⟩) ?_
   all_goals
   refine Tri.ret ?_
   show ResOk _ _ _ _
   rw [boundN_no (by rw [boundE_case h11]; exact h11), boundE_case h11]
   exact ResOk.val lsrB35 lpvB35
  ·try (cases h11; done)
   all_goals (try simp only [CQ] at h11)
   all_goals
   refine Tri.skip ?_
   refine Tri.seq ?_
   have hv : validC c = 0 := by omega
   have hG := valid_good hv
   have hmany := hG.many
   have hvr := val_rng hG x hx
   have hI1 := increasing_pure x.some c.sizes.length (by omega)
   have hI2 := increasing_pure x.people c.people (by omega)
   generalize hA : incB x.some c.sizes.length = a at hI1
   generalize hB : incB x.people c.people = b at hI2
   rcases a with _ | _ <;> rcases b with _ | _ <;> rcases Nat.eq_zero_or_pos x.people.length with hz | hz
   all_goals
   refine sZ [2, 3, 39] (fun P S K => XvFieldAddr P 31 0 (S.get 3) (fun r0 _ => XvLoad P 22 (M S.hp S.nx) r0 (fun r1 _ => XvFieldAddr P 25 0 (S.get 2) (fun r2 _ => XvLoad P 22 (M S.hp S.nx) r2 (fun r3 _ => XvLen P 22 r3 (fun r4 _ => XvFnIV P (M S.hp S.nx) (.fn 56 []) [r1, r4] (fun r5 ef5 => XvUn .not r5 (fun r6 _ => Xgq r6 false (fun k => XvFieldAddr P 31 1 (S.get 3) (fun r8 _ => k r8)) (fun g8 r8 => Xgq g8 false (fun k => XvLoad P 22 (M (Eff.hp ef5 S.nx S.hp) (S.nx + ef5.add.length)) r8 (fun r9 _ => k r9)) (fun g9 r9 => Xgq g9 false (fun k => XvFieldAddr P 25 1 (S.get 2) (fun r10 _ => k r10)) (fun g10 r10 => Xgq g10 false (fun k => XvLoad P 3 (M (Eff.hp ef5 S.nx S.hp) (S.nx + ef5.add.length)) r10 (fun r11 _ => k r11)) (fun g11 r11 => Xge g11 false (fun k => XvFnIV P (M (Eff.hp ef5 S.nx S.hp) (S.nx + ef5.add.length)) (.fn 56 []) [r9, r11] k) (fun g12 r12 ef12 => Xgq g12 false (fun k => XvUn .not r12 (fun r13 _ => k r13)) (fun g13 r13 => XvPick g13 (.atom (.bool true)) r13 (fun r14 _ => Xgq r14 false (fun k => XvFieldAddr P 31 1 (S.get 3) (fun r16 _ => k r16)) (fun g16 r16 => Xgq g16 false (fun k => XvLoad P 22 (M (Eff.hp ef12 (S.nx + ef5.add.length) (Eff.hp ef5 S.nx S.hp)) ((S.nx + ef5.add.length) + ef12.add.length)) r16 (fun r17 _ => k r17)) (fun g17 r17 => Xgq g17 false (fun k => XvLen P 22 r17 (fun r18 _ => k r18)) (fun g18 r18 => Xgq g18 false (fun k => XvBinOV P .eql 3 (.const (.int .i64 0)) r18 (.atom (.int .i64 0)) (fun r19 _ => k r19)) (fun g19 r19 => Xgq g19 false (fun k => k r19) (fun g20 r20 => Xgq r20 true (fun k => XvFieldAddr P 31 0 (S.get 3) (fun r21 _ => k r21)) (fun g21 r21 => Xgq g21 true (fun k => XvLoad P 22 (M (Eff.hp ef12 (S.nx + ef5.add.length) (Eff.hp ef5 S.nx S.hp)) ((S.nx + ef5.add.length) + ef12.add.length)) r21 (fun r22 _ => k r22)) (fun g22 r22 => Xgq g22 true (fun k => XvLen P 22 r22 (fun r23 _ => k r23)) (fun g23 r23 => Xgq g23 true (fun k => XvBinOV P .neq 3 (.const (.int .i64 1)) r23 (.atom (.int .i64 1)) (fun r24 _ => k r24)) (fun g24 r24 => Xgq g20 false (fun k => XvPick g24 r24 (.atom (.bool false)) (fun r25 _ => k r25)) (fun g25 r25 => XvPick g25 (.atom (.bool true)) r25 (fun r26 _ => K ⟨[(2, S.get 2), (3, S.get 3), (39, r26)], (Eff.hp ef12 (S.nx + ef5.add.length) (Eff.hp ef5 S.nx S.hp)), ((S.nx + ef5.add.length) + ef12.add.length), S.gh⟩)))))))))))))))))))))))))) fun K hK => ?_
   repeat' (first | (refine hK _ ?_; clear hK K) | ((first | refine xG_intro (fun hg => ?_) (fun hg => ?_) | refine fun (hg : (_ : Prop)) => ?_) <;> ((try simp only [BQ, List.length_map] at hg); try (cases hg; done); try (exfalso; omega))) | refine And.intro ?_ ?_ | exact cl | refine one_take ?_ _ | refine one_drop ?_ _ | refine .inl ⟨_, _, hI1, ?_⟩ | refine ⟨_, _, hI1, ?_⟩ | refine .inl ⟨_, _, hI2, ?_⟩ | refine ⟨_, _, hI2, ?_⟩ | (refine st ?_; try simp only [encC, encCert, pairs, ↓SE]) | simp only [encC, encCert, pairs, ↓SE])
   all_goals try simp (disch := omega) only [wrap_id, wrap8_id]
   all_goals
   refine Tri.cond rfl (fun h39 => ?_) (fun h39 => ?_)
   ·try (cases h39; done)
    all_goals (try simp only [CQ] at h39)
    all_goals
    refine sY [4, 5] (fun P S K => K ⟨[(4, (.atom (.int .i64 0))), (5, (.atom (.int .i64 17)))], S.hp, S.nx, S.gh⟩) ?_
    all_goals
    refine Tri.ret ?_
    show ResOk _ _ _ _
    first
      | rw [(bound_wrong hv (wrong_a hA)).1, (bound_wrong hv (wrong_a hA)).2]
      | rw [(bound_wrong hv (wrong_b hB)).1, (bound_wrong hv (wrong_b hB)).2]
      | rw [(bound_wrong hv (wrong_c hz (by omega))).1, (bound_wrong hv (wrong_c hz (by omega))).2]
    exact ResOk.val lsrB35 lpvB35
   ·try (cases h39; done)
    all_goals (try simp only [CQ] at h39)
    all_goals
    refine Tri.skip ?_
    refine sY [2, 3] (fun P S K => K ⟨[(2, S.get 2), (3, S.get 3)], S.hp, S.nx, S.gh⟩) ?_
    all_goals
    refine Tri.seq ?_
    refine sZ [2, 3, 43] (fun P S K => XvFieldAddr P 31 1 (S.get 3) (fun r0 _ => XvLoad P 22 (M S.hp S.nx) r0 (fun r1 _ => XvLen P 22 r1 (fun r2 _ => XvBinOV P .eql 3 (.const (.int .i64 0)) r2 (.atom (.int .i64 0)) (fun r3 _ => K ⟨[(2, S.get 2), (3, S.get 3), (43, r3)], S.hp, S.nx, S.gh⟩))))) fun K hK => ?_
    repeat' (first | (refine hK _ ?_; clear hK K) | ((first | refine xG_intro (fun hg => ?_) (fun hg => ?_) | refine fun (hg : (_ : Prop)) => ?_) <;> ((try simp only [BQ, List.length_map] at hg); try (cases hg; done); try (exfalso; omega))) | refine And.intro ?_ ?_ | exact cl | refine one_take ?_ _ | refine one_drop ?_ _ | (refine st ?_; try simp only [encC, encCert, pairs]) | simp only [encC, encCert, pairs])
    all_goals
    refine Tri.cond rfl (fun h43 => ?_) (fun h43 => ?_)
    ·try (cases h43; done)
     all_goals (try simp only [CQ] at h43)
     all_goals
     have hs1 : x.some.length = 1 := by omega
     have hm := incB_mem hA (li x.some 0) (li_mem (by omega))
     have hve := val_none (c := c) (x := x) (by omega)
     refine rD 9 [3, 7] (fun P GD S K => XvFieldAddr P 25 0 (S.get 2) (fun r0 ef0 => XvLoad P 22 (M S.hp S.nx) r0 (fun r1 ef1 => XvFieldAddr P 31 0 (S.get 3) (fun r2 ef2 => XvLoad P 22 (M S.hp S.nx) r2 (fun r3 ef3 => XvIndexAddr P 22 r3 (.atom (.int .i64 0)) (fun r4 ef4 => XvLoad P 3 (M S.hp S.nx) r4 (fun r5 ef5 => XvIndexAddr P 22 r1 r5 (fun r6 ef6 => XvLoad P 3 (M S.hp S.nx) r6 (fun r7 ef7 => (trOk S.nx GD [⟨S.nx, 0, ef0.rd, [], []⟩, ⟨S.nx, 0, ef1.rd, [], []⟩, ⟨S.nx, 0, ef2.rd, [], []⟩, ⟨S.nx, 0, ef3.rd, [], []⟩, ⟨S.nx, 0, ef4.rd, [], []⟩, ⟨S.nx, 0, ef5.rd, [], []⟩, ⟨S.nx, 0, ef6.rd, [], []⟩, ⟨S.nx, 0, ef7.rd, [], []⟩, ⟨S.nx, 0, [], [], []⟩] = true ∧ K ⟨[(3, S.get 3), (7, r7)], S.hp, S.nx, S.gh⟩)))))))))) fun K hK => ?_
     repeat' (first | (refine hK _ ?_; clear hK K) | (refine (?_ : trOk _ _ _ = true); kernel_rfl) | ((first | refine xG_intro (fun hg => ?_) (fun hg => ?_) | refine fun (hg : (_ : Prop)) => ?_) <;> ((try simp only [BQ, List.length_map] at hg); try (cases hg; done); try (exfalso; omega))) | refine And.intro ?_ ?_ | exact cl | refine one_take ?_ _ | refine one_drop ?_ _ | (refine st ?_; try simp only [encC, encCert, pairs, getD_encI (show 0 < x.some.length by omega), getD_encI (show (li x.some 0).toNat < c.sizes.length by omega)]) | simp only [encC, encCert, pairs, getD_encI (show 0 < x.some.length by omega), getD_encI (show (li x.some 0).toNat < c.sizes.length by omega)])
     all_goals
     refine Tri.seq ?_
     refine sZ [7, 61] (fun P S K => XvFieldAddr P 31 2 (S.get 3) (fun r1 _ => XvLoad P 3 (M S.hp S.nx) r1 (fun r2 _ => XvBinOV P .neq 3 (.tmp 60) (S.get 7) r2 (fun r3 _ => K ⟨[(7, S.get 7), (61, r3)], S.hp, S.nx, S.gh⟩)))) fun K hK => ?_
     repeat' (first | (refine hK _ ?_; clear hK K) | ((first | refine xG_intro (fun hg => ?_) (fun hg => ?_) | refine fun (hg : (_ : Prop)) => ?_) <;> ((try simp only [BQ, List.length_map] at hg); try (cases hg; done); try (exfalso; omega))) | refine And.intro ?_ ?_ | exact cl | refine one_take ?_ _ | refine one_drop ?_ _ | (refine st ?_; try simp only [encC, encCert, pairs]) | simp only [encC, encCert, pairs])
     all_goals
     refine Tri.cond rfl (fun h61 => ?_) (fun h61 => ?_)
     ·try (cases h61; done)
      all_goals (try simp only [CQ] at h61)
      all_goals
      refine sY [4, 5] (fun P S K => K ⟨[(4, (.atom (.int .i64 0))), (5, (.atom (.int .i64 17)))], S.hp, S.nx, S.gh⟩) ?_
      all_goals
      refine Tri.ret ?_
      show ResOk _ _ _ _
      have hne : valS c x ≠ x.least := by omega
      rw [(bound_least hv hne).1, (bound_least hv hne).2]
      exact ResOk.val lsrB35 lpvB35
     ·try (cases h61; done)
      all_goals (try simp only [CQ] at h61)
      all_goals
      refine Tri.skip ?_
      refine sY [4, 5] (fun P S K => K ⟨[(4, (S.get 7)), (5, (.atom (.int .i64 0)))], S.hp, S.nx, S.gh⟩) ?_
      all_goals
      refine Tri.ret ?_
      show ResOk _ _ _ _
      have heq : valS c x = x.least := by omega
      have hok : ¬ wrongX c x = true := wrong_no hA hB (by omega)
      rw [(bound_ok hv hok heq).1, (bound_ok hv hok heq).2, hve]
      exact ResOk.val lsrB35 lpvB35
    ·try (cases h43; done)
     all_goals (try simp only [CQ] at h43)
     all_goals
     have hve := val_some (c := c) (x := x) (by omega)
     refine rZ [3, 7] (fun P S K => XvLoad P 25 (M S.hp S.nx) (S.get 2) (fun r0 _ => XvFieldAddr P 31 0 (S.get 3) (fun r1 _ => XvLoad P 22 (M S.hp S.nx) r1 (fun r2 _ => XvFieldAddr P 31 1 (S.get 3) (fun r3 _ => XvLoad P 22 (M S.hp S.nx) r3 (fun r4 _ => XvFnIV P (M S.hp S.nx) (.fn 57 []) [r0, r2, r4] (fun r5 ef5 => K ⟨[(3, S.get 3), (7, r5)], (Eff.hp ef5 S.nx S.hp), (S.nx + ef5.add.length), S.gh⟩))))))) fun K hK => ?_
     repeat' (first | (refine hK _ ?_; clear hK K) | ((first | refine xG_intro (fun hg => ?_) (fun hg => ?_) | refine fun (hg : (_ : Prop)) => ?_) <;> ((try simp only [BQ, List.length_map] at hg); try (cases hg; done); try (exfalso; omega))) | refine And.intro ?_ ?_ | exact cl | refine one_take ?_ _ | refine one_drop ?_ _ | refine .inl ⟨_, _, hI1, ?_⟩ | refine ⟨_, _, hI1, ?_⟩ | refine .inl ⟨_, _, hI2, ?_⟩ | refine ⟨_, _, hI2, ?_⟩ | refine .inl ⟨_, _, Counted_pure c hc hG x.some x.people (incB_mem hA) (by omega) (by omega) (by omega), ?_⟩ | refine ⟨_, _, Counted_pure c hc hG x.some x.people (incB_mem hA) (by omega) (by omega) (by omega), ?_⟩ | (refine st ?_; try simp only [encC, encCert, pairs]) | simp only [encC, encCert, pairs])
     all_goals
     refine Tri.seq ?_
     refine sZ [7, 61] (fun P S K => XvFieldAddr P 31 2 (S.get 3) (fun r1 _ => XvLoad P 3 (M S.hp S.nx) r1 (fun r2 _ => XvBinOV P .neq 3 (.tmp 60) (S.get 7) r2 (fun r3 _ => K ⟨[(7, S.get 7), (61, r3)], S.hp, S.nx, S.gh⟩)))) fun K hK => ?_
     repeat' (first | (refine hK _ ?_; clear hK K) | ((first | refine xG_intro (fun hg => ?_) (fun hg => ?_) | refine fun (hg : (_ : Prop)) => ?_) <;> ((try simp only [BQ, List.length_map] at hg); try (cases hg; done); try (exfalso; omega))) | refine And.intro ?_ ?_ | exact cl | refine one_take ?_ _ | refine one_drop ?_ _ | (refine st ?_; try simp only [encC, encCert, pairs]) | simp only [encC, encCert, pairs])
     all_goals
     refine Tri.cond rfl (fun h61 => ?_) (fun h61 => ?_)
     ·try (cases h61; done)
      all_goals (try simp only [CQ] at h61)
      all_goals
      refine sY [4, 5] (fun P S K => K ⟨[(4, (.atom (.int .i64 0))), (5, (.atom (.int .i64 17)))], S.hp, S.nx, S.gh⟩) ?_
      all_goals
      refine Tri.ret ?_
      show ResOk _ _ _ _
      have hne : valS c x ≠ x.least := by omega
      rw [(bound_least hv hne).1, (bound_least hv hne).2]
      exact ResOk.val lsrB35 lpvB35
     ·try (cases h61; done)
      all_goals (try simp only [CQ] at h61)
      all_goals
      refine Tri.skip ?_
      refine sY [4, 5] (fun P S K => K ⟨[(4, (S.get 7)), (5, (.atom (.int .i64 0)))], S.hp, S.nx, S.gh⟩) ?_
      all_goals
      refine Tri.ret ?_
      show ResOk _ _ _ _
      have heq : valS c x = x.least := by omega
      have hok : ¬ wrongX c x = true := wrong_no hA hB (by omega)
      rw [(bound_ok hv hok heq).1, (bound_ok hv hok heq).2, hve]
      exact ResOk.val lsrB35 lpvB35
theorem check_bad {c : CaseD} {ps : List (Int × Int)} {x : CertD} (h : loadsE c ps ≠ 0) : checkN c ps x = 0 ∧ checkE c ps x = loadsE c ps := by
  have e : checkE c ps x = loadsE c ps := if_pos h
  exact ⟨if_neg (by rw [e]; exact h), e⟩
theorem check_bound {c : CaseD} {ps : List (Int × Int)} {x : CertD} (h : loadsE c ps = 0) (h2 : boundE c x ≠ 0) : checkN c ps x = 0 ∧ checkE c ps x = boundE c x := by
  have e : checkE c ps x = boundE c x := if_neg (by omega)
  exact ⟨if_neg (by rw [e]; exact h2), e⟩
theorem check_ok {c : CaseD} {ps : List (Int × Int)} {x : CertD} (h : loadsE c ps = 0) (h2 : boundE c x = 0) : checkN c ps x = greatest (loadsR c ps) - boundN c x ∧ checkE c ps x = 0 := by
  have e : checkE c ps x = 0 := (if_neg (by omega)).trans h2
  exact ⟨if_pos e, e⟩
theorem loads_valid {c : CaseD} {ps : List (Int × Int)} (h : loadsE c ps = 0) : validC c = 0 := by
  refine Classical.byContradiction fun hv => ?_
  unfold loadsE at h
  rw [if_pos hv] at h; exact hv h
theorem loadsR_mem {c : CaseD} (hG : Good c) {ps : List (Int × Int)} (hp : ps.length ≤ 1000000) : ∀ x, x ∈ loadsR c ps → 0 ≤ x ∧ x ≤ 2048000000 := fun x hx => by
  unfold loadsR at hx
  split at hx
  · have := loadsG_rng (c := c) (fun x hx => by have := hG.size x hx; omega) ps ps.length x hx
    omega
  · cases hx
theorem greatest_rng {c : CaseD} (hG : Good c) {ps : List (Int × Int)} (hp : ps.length ≤ 1000000) : 0 ≤ greatest (loadsR c ps) ∧ greatest (loadsR c ps) ≤ 2048000000 :=
  ⟨greatest_nonneg _, greatest_le (by omega) fun x hx => (loadsR_mem hG hp x hx).2⟩
theorem rCheck_pure (c : CaseD) (ps : List (Int × Int)) (x : CertD) (hc : Held c) (hps : ps.length ≤ 1000000) (hx : Sane x) : Pure Try.prog 32 [encC c, pairs ps, encCert x] (.tup [encI (checkN c ps x), encI (checkE c ps x)]) [] := by
  refine Pure.intro (ts := [6, 7]) Try.func32 (by kernel_rfl) rfl rfl rfl (Nat.le_of_ble_eq_true rfl) ?_ ?_
  · simp [pure_case, pure_cert, pure_pairs, encI, PV.pure, pureL]
  refine sZ [1, 3, 5] (fun P S K => XvBox S.nx (S.get 0) (fun r0 ef0 => XvBox (S.nx + ef0.add.length) (S.get 2) (fun r1 ef1 => K ⟨[(1, S.get 1), (3, r0), (5, r1)], (Eff.hp ef1 (S.nx + ef0.add.length) (Eff.hp ef0 S.nx S.hp)), ((S.nx + ef0.add.length) + ef1.add.length), S.gh⟩))) fun K hK => ?_
  repeat' (first | (refine hK _ ?_; clear hK K) | ((first | refine xG_intro (fun hg => ?_) (fun hg => ?_) | refine fun (hg : (_ : Prop)) => ?_) <;> ((try simp only [BQ] at hg); try (exfalso; omega))) | refine And.intro ?_ ?_ | exact cl | refine one_take ?_ _ | refine one_drop ?_ _ | (refine st ?_; try simp only [encC, encCert, pairs]) | simp only [encC, encCert, pairs])
  all_goals
  refine sZ [3, 5, 8, 9] (fun P S K => XvLoad P 25 (M S.hp S.nx) (S.get 3) (fun r0 _ => XvFnIV P (M S.hp S.nx) (.fn 19 []) [r0, (S.get 1)] (fun r2 ef2 => XvExtract r2 0 (fun r4 _ => XvExtract r2 1 (fun r5 _ => K ⟨[(3, S.get 3), (5, S.get 5), (8, r4), (9, r5)], (Eff.hp ef2 S.nx S.hp), (S.nx + ef2.add.length), S.gh⟩))))) fun K hK => ?_
  repeat' (first | (refine hK _ ?_; clear hK K) | ((first | refine xG_intro (fun hg => ?_) (fun hg => ?_) | refine fun (hg : (_ : Prop)) => ?_) <;> ((try simp only [BQ] at hg); try (exfalso; omega))) | refine And.intro ?_ ?_ | exact cl | refine one_take ?_ _ | refine one_drop ?_ _ | refine .inl ⟨_, _, rLoads_pure c ps hc hps, ?_⟩ | refine ⟨_, _, rLoads_pure c ps hc hps, ?_⟩ | (refine st ?_; try simp only [encC, encCert, pairs]) | simp only [encC, encCert, pairs])
  all_goals
  refine Tri.seq ?_
  refine sY [3, 5, 8, 9, 19] (fun P S K => XvBinOV P .neq 32 (.const (.int .i64 0)) (S.get 9) (.atom (.int .i64 0)) (fun r1 _ => K ⟨[(3, S.get 3), (5, S.get 5), (8, S.get 8), (9, S.get 9), (19, r1)], S.hp, S.nx, S.gh⟩)) ?_
  all_goals
  refine Tri.cond rfl (fun h19 => ?_) (fun h19 => ?_)
  ·try (cases h19; done)
   all_goals (try simp only [CQ] at h19)
   all_goals
   refine sY [6, 7] (fun P S K => K ⟨[(6, (.atom (.int .i64 0))), (7, (S.get 9))], S.hp, S.nx, S.gh⟩) ?_
   all_goals
   refine Tri.ret ?_
   show ResOk _ _ _ _
   have hb : loadsE c ps ≠ 0 := by omega
   rw [(check_bad (x := x) hb).1, (check_bad (x := x) hb).2]
   exact ResOk.val lsrB35 lpvB35
  ·try (cases h19; done)
   all_goals (try simp only [CQ] at h19)
   all_goals
   refine Tri.skip ?_
   have hl : loadsE c ps = 0 := by omega
   have hG := valid_good (loads_valid hl)
   have hhi := hG.hi
   have hgr := greatest_rng hG hps
   have hbr := boundN_rng c x hx
   have hrl := loadsR_len c ps hhi
   refine sZ [8, 10, 11] (fun P S K => XvLoad P 25 (M S.hp S.nx) (S.get 3) (fun r0 _ => XvLoad P 31 (M S.hp S.nx) (S.get 5) (fun r1 _ => XvFnIV P (M S.hp S.nx) (.fn 30 []) [r0, r1] (fun r2 ef2 => XvExtract r2 0 (fun r4 _ => XvExtract r2 1 (fun r5 _ => K ⟨[(8, S.get 8), (10, r4), (11, r5)], (Eff.hp ef2 S.nx S.hp), (S.nx + ef2.add.length), S.gh⟩)))))) fun K hK => ?_
   repeat' (first | (refine hK _ ?_; clear hK K) | ((first | refine xG_intro (fun hg => ?_) (fun hg => ?_) | refine fun (hg : (_ : Prop)) => ?_) <;> ((try simp only [BQ] at hg); try (exfalso; omega))) | refine And.intro ?_ ?_ | exact cl | refine one_take ?_ _ | refine one_drop ?_ _ | refine .inl ⟨_, _, rBound_pure c x hc hx, ?_⟩ | refine ⟨_, _, rBound_pure c x hc hx, ?_⟩ | (refine st ?_; try simp only [encC, encCert, pairs]) | simp only [encC, encCert, pairs])
   all_goals
   refine Tri.seq ?_
   refine sY [8, 10, 11, 28] (fun P S K => XvBinOV P .neq 32 (.const (.int .i64 0)) (S.get 11) (.atom (.int .i64 0)) (fun r1 _ => K ⟨[(8, S.get 8), (10, S.get 10), (11, S.get 11), (28, r1)], S.hp, S.nx, S.gh⟩)) ?_
   all_goals
   refine Tri.cond rfl (fun h28 => ?_) (fun h28 => ?_)
   ·try (cases h28; done)
    all_goals (try simp only [CQ] at h28)
    all_goals
    refine sY [6, 7] (fun P S K => K ⟨[(6, (.atom (.int .i64 0))), (7, (S.get 11))], S.hp, S.nx, S.gh⟩) ?_
    all_goals
    refine Tri.ret ?_
    show ResOk _ _ _ _
    have hb : boundE c x ≠ 0 := by omega
    rw [(check_bound (x := x) hl hb).1, (check_bound (x := x) hl hb).2]
    exact ResOk.val lsrB35 lpvB35
   ·try (cases h28; done)
    all_goals (try simp only [CQ] at h28)
    all_goals
    refine Tri.skip ?_
    refine sZ [6, 7] (fun P S K => XvFnIV P (M S.hp S.nx) (.fn 34 []) [(S.get 8)] (fun r1 ef1 => XvBinOV P .sub 3 (.tmp 32) r1 (S.get 10) (fun r3 _ => K ⟨[(6, r3), (7, (.atom (.int .i64 0)))], (Eff.hp ef1 S.nx S.hp), (S.nx + ef1.add.length), S.gh⟩))) fun K hK => ?_
    repeat' (first | (refine hK _ ?_; clear hK K) | ((first | refine xG_intro (fun hg => ?_) (fun hg => ?_) | refine fun (hg : (_ : Prop)) => ?_) <;> ((try simp only [BQ] at hg); try (exfalso; omega))) | refine And.intro ?_ ?_ | exact cl | refine one_take ?_ _ | refine one_drop ?_ _ | refine .inl ⟨_, _, Greatest_pure (loadsR c ps) (by omega), ?_⟩ | refine ⟨_, _, Greatest_pure (loadsR c ps) (by omega), ?_⟩ | (refine st ?_; try simp only [encC, encCert, pairs]) | simp only [encC, encCert, pairs])
    all_goals try simp (disch := omega) only [wrap_id, wrap8_id]
    all_goals
    refine Tri.ret ?_
    show ResOk _ _ _ _
    have hb : boundE c x = 0 := by omega
    rw [(check_ok (x := x) hl hb).1, (check_ok (x := x) hl hb).2]
    exact ResOk.val lsrB35 lpvB35
end Go.Proofs.Ytcdeilgijleoaaa
set_option linter.all false
namespace Go.Proofs.Ytcdeilgijleoaaa
open Go Go.RowKit
set_option linter.unusedSimpArgs false
set_option linter.unusedVariables false
set_option maxRecDepth 20000
set_option maxHeartbeats 1000000
theorem leqB37 {p : Prop} (h : p := by (refine ⟨4, ?_, ?_, rfl, by simp, rfl, fun _ h _ => absurd h (Nat.not_lt_zero _)⟩ <;> (simp only [List.forall_mem_cons]; repeat' (first | refine And.intro ?_ ?_ | (intro p hp; exact absurd hp List.not_mem_nil) | rfl | exact sp (pure_case _) | exact sp (pure_pairs _) | exact sp (pure_nats _) | exact (sealed_pure _ _ _ (pure_ints _)).trans (ren_ints _ _).symm | exact (sealed_pure _ _ _ (pure_strs _)).trans (ren_strs _ _).symm | exact sp (by assumption) | (intro o ho; cases ho; refine ⟨by decide, ?_⟩; first | (refine LeqS.row rfl ?_ ?_; (next => (first | rfl | (simp only [List.map_append, List.map_cons, List.map_nil, List.append_nil, List.nil_append, List.append_assoc, List.cons_append, encI, encS, ints, strs]; done) | (simp [encI, encS, ints, strs, encP, encN, List.map_set]; done))); (next => (first | rfl | exact pureL_encI _ | exact pureL_encS _ | exact pureL_ints _ | exact pureL_strs _ | exact pureL_encP _ | exact pureL_encN _ | (simp [pureL_append, pureL_encI, pureL_encS, pureL_ints, pureL_strs, pureL, PV.pure, pure_ints, pure_strs, pure_case, pureL_encP, pure_pairs, pureL_encN, pure_nats]; done))); done) | refine ⟨_, rfl, rfl, ?_⟩) | (simp [St.born, St.known, retV, St.get, St.obj, lk, sealed, PV.ren, renL, rmap, AO.ren, ints, strs, encI, encS, map_sealed_encI, map_sealed_encS, map_sealed_ints, map_sealed_strs, map_ren_encI, map_ren_encS, map_ren_ints, map_ren_strs, renL_encI, renL_encS, renL_ints, renL_strs, ren_case, encC, pairs, renL_encP, map_sealed_encP, map_ren_encP, encP, take_map_len, renL_encN, map_sealed_encN, map_ren_encN, nats] <;> omega)))); first | done | fail) : p := h
theorem lsrB37 {p : Prop} (h : p := by (first | rfl | (simp [St.born, St.known, retV, St.get, St.obj, lk, sealed, PV.ren, renL, rmap, AO.ren, ints, strs, encI, encS, map_sealed_encI, map_sealed_encS, map_sealed_ints, map_sealed_strs, map_ren_encI, map_ren_encS, map_ren_ints, map_ren_strs, renL_encI, renL_encS, renL_ints, renL_strs, ren_case, encC, pairs, renL_encP, map_sealed_encP, map_ren_encP, encP, take_map_len, renL_encN, map_sealed_encN, map_ren_encN, nats]; done)); first | done | fail) : p := h
theorem lpvB37 {p : Prop} (h : p := by (first | rfl | (simp [pure_ints, pure_strs, PV.pure, pureL, pureL_encI, pureL_encS, pureL_ints, pureL_strs, pure_case, pureL_encP, pure_pairs, pureL_encN, pure_nats]; done)); first | done | fail) : p := h
theorem mask_low (f : Nat → Bool) {n : Nat} (h : n ≤ 6) : maskN f n = maskN (fun q => f q && decide (q < n)) 6 := by
  have hall : ∀ (a b c d e g : Bool) (n : Fin 7), maskN (fnB a b c d e g) n.1 = maskN (fun q => fnB a b c d e g q && decide (q < n.1)) 6 := by decide +kernel
  have := hall (f 0) (f 1) (f 2) (f 3) (f 4) (f 5) ⟨n, by omega⟩
  rw [mask_six f h, this]
  exact maskN_congr 6 fun q hq => by rw [← fnB_of f hq]
theorem mask_without6 (a b c d e g a' b' c' d' e' g' : Bool) : bits .andNot .u64 (maskN (fnB a b c d e g) 6 : Int) (maskN (fnB a' b' c' d' e' g') 6 : Int) = (maskN (fun q => !fnB a' b' c' d' e' g' q && fnB a b c d e g q) 6 : Int) := by
  revert a b c d e g a' b' c' d' e' g'; decide +kernel
theorem mask_without (f g : Nat → Bool) {n : Nat} (h : n ≤ 6) : bits .andNot .u64 (maskN f n : Int) (maskN g n : Int) = (maskN (fun q => !g q && f q) n : Int) := by
  rw [mask_low f h, mask_low g h, mask_low _ h, mask_six _ (Nat.le_refl 6), mask_six (fun q => g q && decide (q < n)) (Nat.le_refl 6), mask_without6]
  congr 1
  refine maskN_congr 6 fun q hq => ?_
  rw [← fnB_of (fun q => g q && decide (q < n)) hq, ← fnB_of (fun q => f q && decide (q < n)) hq]
  cases g q <;> cases f q <;> cases decide (q < n) <;> rfl
theorem mask_put (f : Nat → Bool) {n p : Nat} (h : n ≤ 6) (hp : p < n) : bits .or .u64 (maskN f n : Int) ((2 ^ p : Nat) : Int) = (maskN (fun q => f q || decide (q = p)) n : Int) := by
  have hall : ∀ (a b c d e g : Bool) (n : Fin 7) (p : Fin 6), p.1 < n.1 → bits .or .u64 (maskN (fnB a b c d e g) n.1 : Int) ((2 ^ p.1 : Nat) : Int) = (maskN (fun q => fnB a b c d e g q || decide (q = p.1)) n.1 : Int) := by decide +kernel
  have := hall (f 0) (f 1) (f 2) (f 3) (f 4) (f 5) ⟨n, by omega⟩ ⟨p, by omega⟩ hp
  rw [mask_six f h, this]
  congr 1
  exact maskN_congr n fun q hq => by rw [← fnB_of f (by omega)]
def inN (people : List Int) : Nat → Bool := fun q => people.contains (q : Int)
theorem inc_lt {l : List Int} {n : Int} (h : IncP l n) : ∀ k j, k < l.length → j < k → li l j < li l k
  | 0, j, _, hj => absurd hj (Nat.not_lt_zero _)
  | k + 1, j, hk, hj => by
    have hs := (h (k + 1) hk).2.2 (Nat.succ_pos k)
    rw [show (((k + 1 : Nat) : Int) - 1).toNat = k by omega] at hs
    rcases Nat.lt_succ_iff_lt_or_eq.1 hj with hj | rfl
    · exact Int.lt_trans (inc_lt h k j (by omega) hj) hs
    · exact hs
theorem inc_pair {l : List Int} {n : Int} (h : incB l n = true) : l.Pairwise (· < ·) := by
  have hp : IncP l n := @of_decide_eq_true _ (Classical.propDecidable _) h
  rw [List.pairwise_iff_getElem]
  intro i j hi hj hij
  have := inc_lt hp j i hj hij
  simpa [li, List.getD_eq_getElem?_getD, hi, hj] using this
theorem in_count {l : List Int} {n : Nat} (h : incB l n = true) : ((List.range n).filter (inN l)).length = l.length := by
  have hA : (((List.range n).filter (inN l)).map (fun q : Nat => (q : Int))).Pairwise (· < ·) :=
    List.Pairwise.map _ (fun a b (hab : a < b) => by omega) (List.Pairwise.filter _ List.pairwise_lt_range)
  have hn1 := hA.imp (S := fun a b => a ≠ b) (fun h => by omega)
  have hn2 := (inc_pair h).imp (S := fun a b => a ≠ b) (fun h => by omega)
  have h1 := List.Nodup.length_le_of_subset (l₂ := l) hn1 (fun x hx => by
    obtain ⟨q, hq, rfl⟩ := List.mem_map.1 hx
    have := (List.mem_filter.1 hq).2
    simpa [inN] using this)
  have h2 := List.Nodup.length_le_of_subset (l₂ := ((List.range n).filter (inN l)).map (fun q : Nat => (q : Int))) hn2 (fun x hx => by
    have hr := incB_mem h x hx
    refine List.mem_map.2 ⟨x.toNat, List.mem_filter.2 ⟨List.mem_range.2 (by omega), ?_⟩, by omega⟩
    unfold inN
    rw [show ((x.toNat : Nat) : Int) = x by omega]
    simpa using hx)
  rw [List.length_map] at h1 h2
  omega
theorem shut_mask (c : CaseD) (i : Int) (people : List Int) (h : c.people.toNat ≤ 6) : popc (maskN (fun q => !inN people q && openB c i q) c.people.toNat) = shutN c i people c.people.toNat := by
  rw [mask_popc _ h]; rfl
theorem mask64 (f : Nat → Bool) {n : Nat} (h : n ≤ 6) : maskN f n < 64 := Nat.lt_of_lt_of_le (maskN_lt f n) (Nat.pow_le_pow_right (by omega) h)
theorem aCounted_pure (c : CaseD) (hG : Good c) (hbl : c.bars.length ≤ 1000000) (ts people : List Int) (hm : ∀ x, x ∈ ts → 0 ≤ x ∧ x < c.sizes.length) (hs : ts.length ≤ 1000000) (hB : incB people c.people = true) (hp : 0 < people.length) : Pure Try.prog 55 [encC c, ints ts, encN (maskN (inN people) c.people.toNat)] (encI (countedS c ts people)) [] := by
  have hmany := hG.many
  have hlo := hG.lo
  have hhi := hG.hi
  have hpn : ((List.range c.people.toNat).filter (inN people)).length = people.length := in_count (by rw [show ((c.people.toNat : Nat) : Int) = c.people by omega]; exact hB)
  have hpl : people.length ≤ 6 := by
    have := List.length_filter_le (inN people) (List.range c.people.toNat)
    rw [hpn, List.length_range] at this; omega
  have hO := ones_pure (mask64 (inN people) (show c.people.toNat ≤ 6 by omega))
  rw [mask_popc _ (show c.people.toNat ≤ 6 by omega), hpn] at hO
  refine Pure.intro (ts := [6]) Try.func55 (by kernel_rfl) rfl rfl rfl (Nat.le_of_ble_eq_true rfl) ?_ ?_
  · simp [pure_case, pure_ints, encI, encN, PV.pure, pureL]
  refine sZ [1, 2, 3] (fun P S K => XvBox S.nx (S.get 0) (fun r0 ef0 => K ⟨[(1, S.get 1), (2, S.get 2), (3, r0)], (Eff.hp ef0 S.nx S.hp), (S.nx + ef0.add.length), S.gh⟩)) fun K hK => ?_
  repeat' (first | (refine hK _ ?_; clear hK K) | ((first | refine xG_intro (fun hg => ?_) (fun hg => ?_) | refine fun (hg : (_ : Prop)) => ?_) <;> ((try simp only [BQ] at hg); try (exfalso; omega))) | refine And.intro ?_ ?_ | exact cl | refine one_take ?_ _ | refine one_drop ?_ _ | (refine st ?_; try simp only [encC, pairs]) | simp only [encC, pairs])
  all_goals
  refine sZ [1, 2, 3, 7] (fun P S K => XvLoad P 38 (M S.hp S.nx) (S.get 3) (fun r0 _ => XvFnIV P (M S.hp S.nx) (.fn 46 []) [r0] (fun r1 ef1 => K ⟨[(1, S.get 1), (2, S.get 2), (3, S.get 3), (7, r1)], (Eff.hp ef1 S.nx S.hp), (S.nx + ef1.add.length), S.gh⟩))) fun K hK => ?_
  repeat' (first | (refine hK _ ?_; clear hK K) | ((first | refine xG_intro (fun hg => ?_) (fun hg => ?_) | refine fun (hg : (_ : Prop)) => ?_) <;> ((try simp only [BQ] at hg); try (exfalso; omega))) | refine And.intro ?_ ?_ | exact cl | refine one_take ?_ _ | refine one_drop ?_ _ | refine .inl ⟨_, _, open_pure c hG.five (by omega), ?_⟩ | refine ⟨_, _, open_pure c hG.five (by omega), ?_⟩ | refine .inl ⟨_, _, hOi, ?_⟩ | refine ⟨_, _, hOi, ?_⟩ | refine .inl ⟨_, _, hO, ?_⟩ | refine ⟨_, _, hO, ?_⟩ | (refine st ?_; try simp only [encC, pairs]) | simp only [encC, pairs])
  all_goals
  refine sY [1, 2, 3, 7, 8] (fun P S K => K ⟨[(1, S.get 1), (2, S.get 2), (3, S.get 3), (7, S.get 7), (8, (.atom (.int .i64 0)))], S.hp, S.nx, S.gh⟩) ?_
  all_goals
  refine Tri.seq ?_
  refine sZ [2, 3, 7, 8, 14, 15, 16] (fun P S K => XvLen P 22 (S.get 1) (fun r1 _ => K ⟨[(2, S.get 2), (3, S.get 3), (7, S.get 7), (8, S.get 8), (14, (S.get 1)), (15, r1), (16, (.atom (.int .i64 0)))], S.hp, S.nx, S.gh⟩)) fun K hK => ?_
  repeat' (first | (refine hK _ ?_; clear hK K) | ((first | refine xG_intro (fun hg => ?_) (fun hg => ?_) | refine fun (hg : (_ : Prop)) => ?_) <;> ((try simp only [BQ] at hg); try (exfalso; omega))) | refine And.intro ?_ ?_ | exact cl | refine one_take ?_ _ | refine one_drop ?_ _ | (refine st ?_; try simp only [encC, pairs]) | simp only [encC, pairs])
  all_goals
  refine Tri.block ?_
  refine Tri.loop (α := (k : Nat) ×' (k ≤ ts.length)) (fun z => (fun (k : Nat) => (⟨[(2, encN (maskN (inN people) c.people.toNat)), (3, .ptr 0 3 0 0), (7, nats (opens c)), (8, encI (sumK c ts people k)), (14, ints ts), (15, encI ts.length), (16, encI k)], [(0, some ⟨3, [encC c]⟩)], 1, []⟩ : St)) z.1) (fun z => (fun (k : Nat) => ts.length - k) z.1) ⟨0, Nat.zero_le _⟩ [0] ?_ ?_
  ·exact leqB37
  ·rintro ⟨k, hk⟩
   have hrg := sumK_rng hG ts people k hk
   refine sY [2, 3, 7, 8, 14, 15, 16, 17] (fun P S K => XvBinOV P .lss 3 (.tmp 15) (S.get 16) (S.get 15) (fun r0 _ => K ⟨[(2, S.get 2), (3, S.get 3), (7, S.get 7), (8, S.get 8), (14, S.get 14), (15, S.get 15), (16, S.get 16), (17, r0)], S.hp, S.nx, S.gh⟩)) ?_
   all_goals
   refine Tri.seq ?_
   refine Tri.cond rfl (fun h17 => ?_) (fun h17 => ?_)
   ·try (cases h17; done)
    all_goals (try simp only [CQ] at h17)
    all_goals
    refine Tri.skip ?_
    refine Tri.seq ?_
    refine Tri.block ?_
    have hkl : k < ts.length := by omega
    have hin := hm _ (li_mem hkl)
    have hsz := li_rng (l := c.sizes) (m := 0) (M := 1024) (fun x hx => by have := hG.size x hx; omega) (by omega) (li ts k).toNat
    have hpr := prod_rng hsz (needS_rng c (li ts k) people)
    have hog := opens_get (c := c) (i := (li ts k).toNat) (by omega)
    have hol : (opens c).length = c.sizes.length := opens_len _
    rw [show (((li ts k).toNat : Nat) : Int) = li ts k by omega] at hog
    have hmw := mask_without (fun (p : Nat) => openB c (li ts k) p) (inN people) (show c.people.toNat ≤ 6 by omega)
    have hOi := ones_pure (mask64 (fun q => !inN people q && openB c (li ts k) q) (show c.people.toNat ≤ 6 by omega))
    rw [shut_mask c (li ts k) people (by omega)] at hOi
    have hne := needS_open c (li ts k) people
    have hshn := shutN_le c (li ts k) people c.people.toNat
    generalize maskN (fun q => !inN people q && openB c (li ts k) q) c.people.toNat = mk at hmw hOi
    generalize hsh : shutN c (li ts k) people c.people.toNat = sn at hne hshn hOi
    have hmx : max (0 : Int) (2 - (sn : Int)) = needS c (li ts k) people := by rw [hne]; omega
    refine sZ [2, 3, 7, 8, 10, 14, 15, 16] (fun P S K => XvIndexAddr P 22 (S.get 14) (S.get 16) (fun r0 _ => XvLoad P 3 (M S.hp S.nx) r0 (fun r1 _ => K ⟨[(2, S.get 2), (3, S.get 3), (7, S.get 7), (8, S.get 8), (10, r1), (14, S.get 14), (15, S.get 15), (16, S.get 16)], S.hp, S.nx, S.gh⟩))) fun K hK => ?_
    repeat' (first | (refine hK _ ?_; clear hK K) | ((first | refine xG_intro (fun hg => ?_) (fun hg => ?_) | refine fun (hg : (_ : Prop)) => ?_) <;> ((try simp only [BQ] at hg); try (exfalso; omega))) | refine And.intro ?_ ?_ | exact cl | refine one_take ?_ _ | refine one_drop ?_ _ | (refine st ?_; try simp only [encC, pairs, getD_encI hkl]) | simp only [encC, pairs, getD_encI hkl])
    all_goals
    refine rD 18 [2, 3, 7, 8, 14, 15, 16] (fun P GD S K => XvFieldAddr P 38 0 (S.get 3) (fun r1 ef1 => XvLoad P 22 (M S.hp S.nx) r1 (fun r2 ef2 => XvIndexAddr P 22 r2 (S.get 10) (fun r4 ef4 => XvLoad P 3 (M S.hp S.nx) r4 (fun r5 ef5 => XvIndexAddr P 82 (S.get 7) (S.get 10) (fun r8 ef8 => XvLoad P 83 (M S.hp S.nx) r8 (fun r9 ef9 => XvBinOV P .andNot 83 (.tmp 30) r9 (S.get 2) (fun r11 ef11 => XvFnV P (M S.hp S.nx) (.fn 48 []) [r11] (fun r12 ef12 => XvBinOV P .sub 3 (.tmp 32) (.atom (.int .i64 2)) r12 (fun r13 ef13 => XvMinMax true (.atom (.int .i64 0)) r13 (fun r14 ef14 => XvBinOV P .mul 3 (.tmp 34) r5 r14 (fun r15 ef15 => XvBinOV P .add 3 (.tmp 35) (S.get 8) r15 (fun r16 ef16 => (trOk S.nx GD [⟨S.nx, 0, [], [], []⟩, ⟨S.nx, 0, ef1.rd, [], []⟩, ⟨S.nx, 0, ef2.rd, [], []⟩, ⟨S.nx, 0, [], [], []⟩, ⟨S.nx, 0, ef4.rd, [], []⟩, ⟨S.nx, 0, ef5.rd, [], []⟩, ⟨S.nx, 0, [], [], []⟩, ⟨S.nx, 0, [], [], []⟩, ⟨S.nx, 0, ef8.rd, [], []⟩, ⟨S.nx, 0, ef9.rd, [], []⟩, ⟨S.nx, 0, [], [], []⟩, ⟨S.nx, 0, ef11.rd, [], []⟩, (Eff.tr ef12 S.nx), ⟨(S.nx + ef12.add.length), 0, ef13.rd, [], []⟩, ⟨(S.nx + ef12.add.length), 0, ef14.rd, [], []⟩, ⟨(S.nx + ef12.add.length), 0, ef15.rd, [], []⟩, ⟨(S.nx + ef12.add.length), 0, ef16.rd, [], []⟩, ⟨(S.nx + ef12.add.length), 0, [], [], []⟩] = true ∧ K ⟨[(2, S.get 2), (3, S.get 3), (7, S.get 7), (8, r16), (14, S.get 14), (15, S.get 15), (16, S.get 16)], (Eff.hp ef12 S.nx S.hp), (S.nx + ef12.add.length), S.gh⟩)))))))))))))) fun K hK => ?_
    repeat' (first | (refine hK _ ?_; clear hK K) | (refine (?_ : trOk _ _ _ = true); kernel_rfl) | ((first | refine xG_intro (fun hg => ?_) (fun hg => ?_) | refine fun (hg : (_ : Prop)) => ?_) <;> ((try simp only [BQ] at hg); try (exfalso; omega))) | refine And.intro ?_ ?_ | exact cl | refine one_take ?_ _ | refine one_drop ?_ _ | refine .inl ⟨_, _, hOi, ?_⟩ | refine ⟨_, _, hOi, ?_⟩ | refine .inl ⟨_, _, hO, ?_⟩ | refine ⟨_, _, hO, ?_⟩ | (refine st ?_; try simp only [encC, pairs, nats, getD_encI hkl, getD_encI (show (li ts k).toNat < c.sizes.length by omega), getD_encN (show (li ts k).toNat < (opens c).length by omega), hog, encN, hmw]) | simp only [encC, pairs, nats, getD_encI hkl, getD_encI (show (li ts k).toNat < c.sizes.length by omega), getD_encN (show (li ts k).toNat < (opens c).length by omega), hog, encN, hmw])
    all_goals try simp (disch := omega) only [wrap_id, wrap8_id]
    rw [hmx, wrap_id (x := li c.sizes (li ts k).toNat * needS c (li ts k) people) (by omega) (by omega), wrap_id (x := sumK c ts people k + li c.sizes (li ts k).toNat * needS c (li ts k) people) (by omega) (by omega)]
    all_goals
    refine rY [2, 3, 7, 8, 14, 15, 16] (fun P S K => XvBinOV P .add 3 (.const (.int .i64 1)) (S.get 16) (.atom (.int .i64 1)) (fun r0 _ => K ⟨[(2, S.get 2), (3, S.get 3), (7, S.get 7), (8, S.get 8), (14, S.get 14), (15, S.get 15), (16, r0)], S.hp, S.nx, S.gh⟩)) ?_
    all_goals try simp (disch := omega) only [wrap_id, wrap8_id]
    all_goals
    refine ⟨⟨k + 1, by omega⟩, [0], by dsimp only; omega, ?_⟩
    dsimp only
    rw [sumK_succ c ts people (by omega)]
    exact leqB37
   ·try (cases h17; done)
    all_goals (try simp only [CQ] at h17)
    all_goals
    refine Tri.exit ?_
    have hke : k = ts.length := by omega
    subst hke
    rw [sumK_all] at *
    have hq0 : 0 ≤ countedS c ts people := Int.tdiv_nonneg (by omega) (by omega)
    have hq1 : countedS c ts people ≤ sumS c ts people + people.length - 1 := Int.tdiv_le_self _ (by omega)
    have hq : (sumS c ts people + people.length - 1).tdiv people.length = countedS c ts people := rfl
    refine sZ [8, 11] (fun P S K => XvFnIV P (M S.hp S.nx) (.fn 48 []) [(S.get 2)] (fun r1 ef1 => K ⟨[(8, S.get 8), (11, r1)], (Eff.hp ef1 S.nx S.hp), (S.nx + ef1.add.length), S.gh⟩)) fun K hK => ?_
    repeat' (first | (refine hK _ ?_; clear hK K) | ((first | refine xG_intro (fun hg => ?_) (fun hg => ?_) | refine fun (hg : (_ : Prop)) => ?_) <;> ((try simp only [BQ] at hg); try (exfalso; omega))) | refine And.intro ?_ ?_ | exact cl | refine one_take ?_ _ | refine one_drop ?_ _ | refine .inl ⟨_, _, hOi, ?_⟩ | refine ⟨_, _, hOi, ?_⟩ | refine .inl ⟨_, _, hO, ?_⟩ | refine ⟨_, _, hO, ?_⟩ | (refine st ?_; try simp only [encC, pairs]) | simp only [encC, pairs])
    all_goals
    refine sZ [6] (fun P S K => XvBinOV P .add 3 (.tmp 41) (S.get 8) (S.get 11) (fun r2 _ => XvBinOV P .sub 3 (.const (.int .i64 1)) r2 (.atom (.int .i64 1)) (fun r3 _ => XvBinOV P .quo 3 (.tmp 44) r3 (S.get 11) (fun r5 _ => K ⟨[(6, r5)], S.hp, S.nx, S.gh⟩)))) fun K hK => ?_
    repeat' (first | (refine hK _ ?_; clear hK K) | ((first | refine xG_intro (fun hg => ?_) (fun hg => ?_) | refine fun (hg : (_ : Prop)) => ?_) <;> ((try simp only [BQ] at hg); try (exfalso; omega))) | refine And.intro ?_ ?_ | exact cl | refine one_take ?_ _ | refine one_drop ?_ _ | (refine st ?_; try simp only [encC, pairs, hq]) | simp only [encC, pairs, hq])
    all_goals try simp (disch := omega) only [wrap_id, wrap8_id]
    all_goals
    refine Tri.ret ?_
    show ResOk _ _ _ _
    exact ResOk.val lsrB37 lpvB37
end Go.Proofs.Ytcdeilgijleoaaa
