/-
  Walks: own, of; the law AssignLoads.
-/
import Derived.Test.YtcdeilgijleoaaaPA1
import Derived.Test.YtcdeilgijleoaaaPB23
import Derived.Test.YtcdeilgijleoaaaPB20
set_option linter.all false
namespace Go.Proofs.Ytcdeilgijleoaaa
open Go Go.RowKit
set_option linter.unusedSimpArgs false
set_option linter.unusedVariables false
set_option maxRecDepth 20000
set_option maxHeartbeats 1000000
def FitsP (l : List (Int × Int)) : Prop := (∀ p, p ∈ l → I64 p.1 ∧ I64 p.2) ∧ l.length ≤ 9223372036854775807
theorem pureL_encC (l : List CaseD) : pureL (l.map encC) = true := pureL_map encC pure_case l
theorem pureL_pairsL (l : List (List (Int × Int))) : pureL (l.map pairs) = true := pureL_map pairs pure_pairs l
theorem getD_encC {l : List CaseD} {k : Nat} (h : k < l.length) : (l.map encC).getD k .junk = encC (l.getD k ⟨[], 0, []⟩) := by
  simp [List.getD_eq_getElem?_getD, h]
theorem getD_pairsL {l : List (List (Int × Int))} {k : Nat} (h : k < l.length) : (l.map pairs).getD k .junk = pairs (l.getD k []) := by
  simp [List.getD_eq_getElem?_getD, h]
theorem getD_in {α : Type} {l : List α} {k : Nat} {d : α} (h : k < l.length) : l.getD k d ∈ l := by simp [List.getD_eq_getElem?_getD, h]
theorem take_cut {α : Type} (l : List α) (n : Nat) : l.take (min l.length n) = l.take n := by rw [Nat.min_comm, ← List.take_eq_take_min]
theorem own_pure (c : CaseD) : Pure Try.prog 16 [encC c] (encC c) [] := by
  refine Pure.introR (rv := [.cell 2 38]) Try.func16 (by kernel_rfl) rfl rfl rfl (Nat.le_of_ble_eq_true rfl) ?_ ?_
  · simp [pure_case, PV.pure, pureL]
  refine sZ [1, 2] (fun P S K => XvBox S.nx (S.get 0) (fun r0 ef0 => XvAlloc P 38 (S.nx + ef0.add.length) (fun r1 ef1 => K ⟨[(1, r0), (2, r1)], (Eff.hp ef1 (S.nx + ef0.add.length) (Eff.hp ef0 S.nx S.hp)), ((S.nx + ef0.add.length) + ef1.add.length), S.gh⟩))) fun K hK => ?_
  repeat' (first | (refine hK _ ?_; clear hK K) | ((first | refine xG_intro (fun hg => ?_) (fun hg => ?_) | refine fun (hg : (_ : Prop)) => ?_) <;> ((try simp only [BQ] at hg); try (exfalso; omega))) | refine And.intro ?_ ?_ | exact cl | refine one_take ?_ _ | refine one_drop ?_ _ | (refine st ?_; try simp only [encC, pairs]) | simp only [encC, pairs])
  all_goals
  refine sZ [2] (fun P S K => XvFieldAddr P 25 0 (S.get 1) (fun r0 _ => XvLoad P 22 (M S.hp S.nx) r0 (fun r1 _ => XvFieldAddr P 25 1 (S.get 1) (fun r2 _ => XvLoad P 3 (M S.hp S.nx) r2 (fun r3 _ => XvFieldAddr P 25 2 (S.get 1) (fun r4 _ => XvLoad P 23 (M S.hp S.nx) r4 (fun r5 _ => XvBuild P 38 [(0, r1), (1, r3), (2, r5)] (fun r6 _ => XvStore P 38 (M S.hp S.nx) (S.get 2) r6 (fun r7 ef7 => K ⟨[(2, S.get 2)], (Eff.hp ef7 S.nx S.hp), (S.nx + ef7.add.length), S.gh⟩))))))))) fun K hK => ?_
  repeat' (first | (refine hK _ ?_; clear hK K) | ((first | refine xG_intro (fun hg => ?_) (fun hg => ?_) | refine fun (hg : (_ : Prop)) => ?_) <;> ((try simp only [BQ] at hg); try (exfalso; omega))) | refine And.intro ?_ ?_ | exact cl | refine one_take ?_ _ | refine one_drop ?_ _ | (refine st ?_; try simp only [encC, pairs]) | simp only [encC, pairs])
  all_goals
  refine Tri.ret ?_
  show ResR _ _ _ _ _
  refine ResR.cell1 (encC c) rfl ?_ (pure_case _)
  exact sealed_pure _ _ _ (pure_case _)
def ofC (sizes : List Int) (people : Int) (bars : List (Int × Int)) : CaseD := ⟨sizes.take 4, people, bars.take 8⟩
theorem of_held {sizes : List Int} {people : Int} {bars : List (Int × Int)} (h1 : Fits sizes) (h2 : I64 people) (h3 : FitsP bars) : Held (ofC sizes people bars) :=
  ⟨by simp [ofC]; omega, by simp [ofC]; omega, h2, fun x hx => h1.1 x (List.mem_of_mem_take hx), fun p hp => h3.1 p (List.mem_of_mem_take hp)⟩
theorem of_pure (sizes : List Int) (people : Int) (bars : List (Int × Int)) (h1 : Fits sizes) (h3 : FitsP bars) : Pure Try.prog 12 [ints sizes, encI people, pairs bars] (encC (ofC sizes people bars)) [] := by
  have hl1 := h1.2
  have hl3 := h3.2
  refine Pure.introR (rv := [.cell 6 25]) Try.func12 (by kernel_rfl) rfl rfl rfl (Nat.le_of_ble_eq_true rfl) ?_ ?_
  · simp [pure_ints, pure_pairs, encI, PV.pure, pureL]
  refine sZ [0, 1, 2, 6] (fun P S K => XvAlloc P 25 S.nx (fun r0 ef0 => K ⟨[(0, S.get 0), (1, S.get 1), (2, S.get 2), (6, r0)], (Eff.hp ef0 S.nx S.hp), (S.nx + ef0.add.length), S.gh⟩)) fun K hK => ?_
  repeat' (first | (refine hK _ ?_; clear hK K) | ((first | refine xG_intro (fun hg => ?_) (fun hg => ?_) | refine fun (hg : (_ : Prop)) => ?_) <;> ((try simp only [BQ] at hg); try (exfalso; omega))) | refine And.intro ?_ ?_ | exact cl | exact one_encP _ | refine one_take ?_ _ | refine one_drop ?_ _ | (refine st ?_; try simp only [encC, pairs]) | simp only [encC, pairs])
  all_goals
  refine sD 16 [6] (fun P GD S K => XvBuildS P 22 0 S.nx [] (fun r0 ef0 => XvLen P 22 (S.get 0) (fun r3 ef3 => XvMinMax false r3 (.atom (.int .i64 4)) (fun r4 ef4 => XvSliceV P 22 (S.get 0) none (some r4) (fun r5 ef5 => (22 = 22 ∧ XvAppend P 22 (M (Eff.hp ef0 S.nx S.hp) (S.nx + ef0.add.length)) r0 r5 (fun r6 ef6 => XvBuildS P 23 0 ((S.nx + ef0.add.length) + ef6.add.length) [] (fun r8 ef8 => XvLen P 23 (S.get 2) (fun r11 ef11 => XvMinMax false r11 (.atom (.int .i64 8)) (fun r12 ef12 => XvSliceV P 23 (S.get 2) none (some r12) (fun r13 ef13 => (23 = 23 ∧ XvAppend P 23 (M (Eff.hp ef8 ((S.nx + ef0.add.length) + ef6.add.length) (Eff.hp ef6 (S.nx + ef0.add.length) (Eff.hp ef0 S.nx S.hp))) (((S.nx + ef0.add.length) + ef6.add.length) + ef8.add.length)) r8 r13 (fun r14 ef14 => XvBuild P 25 [(0, r6), (1, (S.get 1)), (2, r14)] (fun r15 ef15 => (trOk S.nx GD [(Eff.tr ef0 S.nx), ⟨(S.nx + ef0.add.length), 0, [], [], []⟩, ⟨(S.nx + ef0.add.length), 0, [], [], []⟩, ⟨(S.nx + ef0.add.length), 0, ef3.rd, [], []⟩, ⟨(S.nx + ef0.add.length), 0, ef4.rd, [], []⟩, ⟨(S.nx + ef0.add.length), 0, ef5.rd, [], []⟩, (Eff.tr ef6 (S.nx + ef0.add.length)), ⟨((S.nx + ef0.add.length) + ef6.add.length), 0, [], [], []⟩, (Eff.tr ef8 ((S.nx + ef0.add.length) + ef6.add.length)), ⟨(((S.nx + ef0.add.length) + ef6.add.length) + ef8.add.length), 0, [], [], []⟩, ⟨(((S.nx + ef0.add.length) + ef6.add.length) + ef8.add.length), 0, [], [], []⟩, ⟨(((S.nx + ef0.add.length) + ef6.add.length) + ef8.add.length), 0, ef11.rd, [], []⟩, ⟨(((S.nx + ef0.add.length) + ef6.add.length) + ef8.add.length), 0, ef12.rd, [], []⟩, ⟨(((S.nx + ef0.add.length) + ef6.add.length) + ef8.add.length), 0, ef13.rd, [], []⟩, (Eff.tr ef14 (((S.nx + ef0.add.length) + ef6.add.length) + ef8.add.length)), ⟨((((S.nx + ef0.add.length) + ef6.add.length) + ef8.add.length) + ef14.add.length), 0, ef15.rd, [], []⟩] = true ∧ XvStore P 25 (M (Eff.hp ef14 (((S.nx + ef0.add.length) + ef6.add.length) + ef8.add.length) (Eff.hp ef8 ((S.nx + ef0.add.length) + ef6.add.length) (Eff.hp ef6 (S.nx + ef0.add.length) (Eff.hp ef0 S.nx S.hp)))) ((((S.nx + ef0.add.length) + ef6.add.length) + ef8.add.length) + ef14.add.length)) (S.get 6) r15 (fun r16 ef16 => K ⟨[(6, S.get 6)], (Eff.hp ef16 ((((S.nx + ef0.add.length) + ef6.add.length) + ef8.add.length) + ef14.add.length) (Eff.hp ef14 (((S.nx + ef0.add.length) + ef6.add.length) + ef8.add.length) (Eff.hp ef8 ((S.nx + ef0.add.length) + ef6.add.length) (Eff.hp ef6 (S.nx + ef0.add.length) (Eff.hp ef0 S.nx S.hp))))), (((((S.nx + ef0.add.length) + ef6.add.length) + ef8.add.length) + ef14.add.length) + ef16.add.length), S.gh⟩)))))))))))))))) fun K hK => ?_
  repeat' (first | (refine hK _ ?_; clear hK K) | (refine (?_ : trOk _ _ _ = true); kernel_rfl) | ((first | refine xG_intro (fun hg => ?_) (fun hg => ?_) | refine fun (hg : (_ : Prop)) => ?_) <;> ((try simp only [BQ] at hg); try (exfalso; omega))) | refine And.intro ?_ ?_ | exact cl | exact one_encP _ | refine one_take ?_ _ | refine one_drop ?_ _ | (refine st ?_; try simp only [encC, pairs]) | simp only [encC, pairs])
  all_goals
  refine Tri.ret ?_
  show ResR _ _ _ _ _
  have e1 : (min (sizes.length : Int) 4).toNat - 0 = min sizes.length 4 := by omega
  have e2 : (min (bars.length : Int) 8).toNat - 0 = min bars.length 8 := by omega
  rw [e1, e2, ← List.map_take, ← List.map_take, take_cut, take_cut, show min (min sizes.length 4) sizes.length = (sizes.take 4).length by rw [List.length_take]; omega, show min (min bars.length 8) bars.length = (bars.take 8).length by rw [List.length_take]; omega]
  refine ResR.cell1 (PV.agg [_, _, _]) rfl ?_ (pure_case (ofC sizes people bars))
  simp [-List.map_map, -List.map_take, sealed, St.obj, lk, encC, ints, pairs, map_sealed_encI, map_sealed_encP, take_map_len, List.take_of_length_le, ofC]
end Go.Proofs.Ytcdeilgijleoaaa
set_option linter.all false
namespace Go.Proofs.Ytcdeilgijleoaaa
open Go Go.RowKit
set_option linter.unusedSimpArgs false
set_option linter.unusedVariables false
set_option maxRecDepth 20000
set_option maxHeartbeats 1000000
theorem leqB25 {p : Prop} (h : p := by (refine ⟨4, ?_, ?_, rfl, by simp, rfl, fun _ h _ => absurd h (Nat.not_lt_zero _)⟩ <;> (simp only [List.forall_mem_cons]; repeat' (first | refine And.intro ?_ ?_ | (intro p hp; exact absurd hp List.not_mem_nil) | rfl | exact sp (pure_case _) | exact sp (pure_pairs _) | exact sp (pure_nats _) | exact (sealed_pure _ _ _ (pure_ints _)).trans (ren_ints _ _).symm | exact (sealed_pure _ _ _ (pure_strs _)).trans (ren_strs _ _).symm | exact sp (by assumption) | (intro o ho; cases ho; refine ⟨by decide, ?_⟩; first | (refine LeqS.row rfl ?_ ?_; (next => (first | rfl | (simp only [List.map_append, List.map_cons, List.map_nil, List.append_nil, List.nil_append, List.append_assoc, List.cons_append, encI, encS, ints, strs]; done) | (simp [encI, encS, ints, strs, encP, List.map_set, encC]; done))); (next => (first | rfl | exact pureL_encI _ | exact pureL_encS _ | exact pureL_ints _ | exact pureL_strs _ | exact pureL_encP _ | exact pureL_encN _ | exact pureL_encC _ | exact pureL_pairsL _ | (simp [pureL_append, pureL_encI, pureL_encS, pureL_ints, pureL_strs, pureL, PV.pure, pure_ints, pure_strs, pure_case, pureL_encP, pure_pairs, pureL_encN, pure_nats, pureL_encC, pureL_pairsL]; done))); done) | refine ⟨_, rfl, rfl, ?_⟩) | (simp [St.born, St.known, retV, St.get, St.obj, lk, sealed, PV.ren, renL, rmap, AO.ren, ints, strs, encI, encS, map_sealed_encI, map_sealed_encS, map_sealed_ints, map_sealed_strs, map_ren_encI, map_ren_encS, map_ren_ints, map_ren_strs, renL_encI, renL_encS, renL_ints, renL_strs, ren_case, encC, pairs, renL_encP, map_sealed_encP, map_ren_encP, encP, take_map_len, renL_encC, renL_pairsL] <;> omega)))); first | done | fail) : p := h
theorem lsrB25 {p : Prop} (h : p := by (first | rfl | (simp [St.born, St.known, retV, St.get, St.obj, lk, sealed, PV.ren, renL, rmap, AO.ren, ints, strs, encI, encS, map_sealed_encI, map_sealed_encS, map_sealed_ints, map_sealed_strs, map_ren_encI, map_ren_encS, map_ren_ints, map_ren_strs, renL_encI, renL_encS, renL_ints, renL_strs, ren_case, encC, pairs, renL_encP, map_sealed_encP, map_ren_encP, encP, take_map_len, renL_encC, renL_pairsL]; done)); first | done | fail) : p := h
theorem lpvB25 {p : Prop} (h : p := by (first | rfl | (simp [pure_ints, pure_strs, PV.pure, pureL, pureL_encI, pureL_encS, pureL_ints, pureL_strs, pure_case, pureL_encP, pure_pairs, pureL_encN, pure_nats, pureL_encC, pureL_pairsL]; done)); first | done | fail) : p := h
theorem renL_encC (ρ : Nat → Nat) (l : List CaseD) : renL ρ (l.map encC) = l.map encC := renL_pure ρ _ (pureL_encC l)
theorem renL_pairsL (ρ : Nat → Nat) (l : List (List (Int × Int))) : renL ρ (l.map pairs) = l.map pairs := renL_pure ρ _ (pureL_pairsL l)
theorem spoilt_held {c : CaseD} {how by_ : Int} (hG : Good c) (hb : c.bars.length ≤ 1000) : Held (spoiltC c how by_) := by
  have h90 := around_lo (n := by_) (most := 9) (by decide)
  have h91 := around_hi (n := by_) (most := 9) (by decide)
  have h50 := around_lo (n := by_) (most := 5) (by decide)
  have h51 := around_hi (n := by_) (most := 5) (by decide)
  have h40 := around_lo (n := by_) (most := 4) (by decide)
  have h41 := around_hi (n := by_) (most := 4) (by decide)
  have hm := hG.many
  have hlo := hG.lo
  have hhi := hG.hi
  have hk0 : 0 ≤ spK c by_ := around_lo (by omega)
  have hk1 : spK c by_ < max (c.sizes.length : Int) 1 := around_hi (n := by_.tdiv 3) (most := max (c.sizes.length : Int) 1) (by omega)
  have hp : I64 c.people := by unfold I64; omega
  have hs : ∀ x, x ∈ c.sizes → I64 x := fun x hx => by have := hG.size x hx; unfold I64; omega
  have hbr : ∀ p, p ∈ c.bars → I64 p.1 ∧ I64 p.2 := fun p hp => by have := hG.bar p hp; unfold I64; omega
  have hn : I64 (spN by_) := by unfold spN I64; omega
  have hk : I64 (spK c by_) := by unfold I64; omega
  unfold spoiltC
  split
  · exact ⟨show c.sizes.length ≤ 1000000 by omega, show c.bars.length ≤ 1000000 by omega, hn, hs, hbr⟩
  · split
    · refine ⟨show c.sizes.length ≤ 1000000 by omega, by simp; omega, hp, hs, fun p h => ?_⟩
      rcases List.mem_append.1 h with h | h
      · exact hbr p h
      · rw [List.mem_singleton.1 h]; exact ⟨hk, hn⟩
    · split
      · refine ⟨show c.sizes.length ≤ 1000000 by omega, by simp; omega, hp, hs, fun p h => ?_⟩
        rcases List.mem_append.1 h with h | h
        · exact hbr p h
        · rw [List.mem_singleton.1 h]; exact ⟨hn, by unfold I64; simp⟩
      · split
        · refine ⟨by split <;> simp <;> omega, by simpa using (by omega), hp, fun x h => ?_, hbr⟩
          simp only at h
          split at h
          · rcases List.mem_or_eq_of_mem_set h with h | rfl
            · exact hs x h
            · have : ∀ k : Fin 5, -1 ≤ li sz5 k.1 ∧ li sz5 k.1 ≤ 1025 := by decide
              have := this ⟨(around by_ 5).toNat, by omega⟩
              unfold I64; simp only at this; omega
          · exact hs x h
        · split
          · have hrl := runB_len (spK c by_) (runM c (spK c by_))
            have hrm : runM c (spK c by_) ≤ 6 := by unfold runM; split <;> omega
            have hrun : ∀ n p, p ∈ runB (spK c by_) n → p.1 = spK c by_ ∧ 0 ≤ p.2 ∧ p.2 < n := by
              intro n
              induction n with
              | zero => intro p h; cases h
              | succ n ih =>
                intro p h
                rw [runB] at h
                rcases List.mem_append.1 h with h | h
                · have := ih p h; omega
                · rw [List.mem_singleton.1 h]; exact ⟨rfl, by simp only; omega, by simp only; omega⟩
            refine ⟨show c.sizes.length ≤ 1000000 by omega, by simp; omega, hp, hs, fun p h => ?_⟩
            rcases List.mem_append.1 h with h | h
            · exact hbr p h
            · have := hrun _ p h
              unfold I64 at *; omega
          · refine ⟨by simp; omega, by simpa using (by omega), hp, fun x h => ?_, hbr⟩
            rcases List.mem_append.1 h with h | h
            · exact hs x h
            · rw [(List.mem_replicate.1 h).2]; unfold I64; omega
theorem held3 {a b c : CaseD} (h1 : Held a) (h2 : Held b) (h3 : Held c) : ∀ x, x ∈ [a, b, c] → Held x := fun x hx => by
  rcases List.mem_cons.1 hx with rfl | hx
  · exact h1
  · rcases List.mem_cons.1 hx with rfl | hx
    · exact h2
    · rw [List.mem_singleton.1 hx]; exact h3
theorem len4 {a b c : List (Int × Int)} (h1 : a.length ≤ 1000000) (h2 : b.length ≤ 1000000) (h3 : c.length ≤ 1000000) : ∀ x, x ∈ [a, b, c, []] → x.length ≤ 1000000 := fun x hx => by
  rcases List.mem_cons.1 hx with rfl | hx
  · exact h1
  · rcases List.mem_cons.1 hx with rfl | hx
    · exact h2
    · rcases List.mem_cons.1 hx with rfl | hx
      · exact h3
      · rw [List.mem_singleton.1 hx]; exact Nat.zero_le _
theorem loadsR_short (c : CaseD) (ps : List (Int × Int)) : (loadsR c ps).length ≤ 6 := by
  unfold loadsR; split
  · rename_i h
    have hv : validC c = 0 := Classical.byContradiction fun g => g (by rw [(loads_bad g).1] at h; exact h)
    rw [loadsG_len]; have := (valid_good hv).hi; omega
  · exact Nat.zero_le _
theorem bentP_len (l : List (Int × Int)) (how by_ : Int) : (bentP l how by_).length ≤ l.length + 1 := by
  unfold bentP; split
  · simp
  · split
    · simp
    · split
      · simp
      · split
        · simp
        · split
          · simp
          · simp; omega
theorem loads_pure (l : List Int) (how by_ : Int) (sizes : List Int) (people : Int) (bars : List (Int × Int)) (hl : Fits l) (hh : I64 how) (hb : I64 by_) (hs : Fits sizes) (hp : I64 people) (hbr : FitsP bars) (hlv : Pure Try.prog 21 [] (.atom (.bool true)) []) :
    Pure Try.prog 3 [ints l, encI how, encI by_, ints sizes, encI people, pairs bars] (.atom (.bool true)) [] := by
  have hmb := made_bars l
  have hbl := hbr.2
  have hfl := findP_len (madeC l)
  have hml := (made_good l).many
  refine Pure.intro (ts := [12]) Try.func3 (by kernel_rfl) rfl rfl rfl (Nat.le_of_ble_eq_true rfl) ?_ ?_
  · simp [pure_ints, pure_pairs, encI, PV.pure, pureL]
  refine sZ [0, 1, 2, 3, 4, 5] (fun P S K => K ⟨[(0, S.get 0), (1, S.get 1), (2, S.get 2), (3, S.get 3), (4, S.get 4), (5, S.get 5)], S.hp, S.nx, S.gh⟩) fun K hK => ?_
  repeat' (first | (refine hK _ ?_; clear hK K) | ((first | refine xG_intro (fun hg => ?_) (fun hg => ?_) | refine fun (hg : (_ : Prop)) => ?_) <;> ((try simp only [BQ] at hg); try (exfalso; omega))) | refine And.intro ?_ ?_ | exact cl | exact one_encP _ | refine one_take ?_ _ | refine one_drop ?_ _ | (refine st ?_; try simp only [encC, pairs, encCert, dec_self, renL_encP]) | simp only [encC, pairs, encCert, dec_self, renL_encP])
  all_goals
  refine sZ [1, 2, 3, 4, 5, 13] (fun P S K => XvFnIV P (M S.hp S.nx) (.fn 10 []) [(S.get 0)] (fun r1 ef1 => XvAlloc P 25 (S.nx + ef1.add.length) (fun r2 ef2 => XvStore P 25 (M (Eff.hp ef2 (S.nx + ef1.add.length) (Eff.hp ef1 S.nx S.hp)) ((S.nx + ef1.add.length) + ef2.add.length)) r2 r1 (fun r3 ef3 => K ⟨[(1, S.get 1), (2, S.get 2), (3, S.get 3), (4, S.get 4), (5, S.get 5), (13, r2)], (Eff.hp ef3 ((S.nx + ef1.add.length) + ef2.add.length) (Eff.hp ef2 (S.nx + ef1.add.length) (Eff.hp ef1 S.nx S.hp))), (((S.nx + ef1.add.length) + ef2.add.length) + ef3.add.length), S.gh⟩)))) fun K hK => ?_
  repeat' (first | (refine hK _ ?_; clear hK K) | ((first | refine xG_intro (fun hg => ?_) (fun hg => ?_) | refine fun (hg : (_ : Prop)) => ?_) <;> ((try simp only [BQ] at hg); try (exfalso; omega))) | refine And.intro ?_ ?_ | exact cl | exact one_encP _ | refine one_take ?_ _ | refine one_drop ?_ _ | refine .inl ⟨_, _, Made_pure l hl, ?_⟩ | refine ⟨_, _, Made_pure l hl, ?_⟩ | refine .inl ⟨_, _, hlv, ?_⟩ | refine ⟨_, _, hlv, ?_⟩ | (refine st ?_; try simp only [encC, pairs, encCert, dec_self, renL_encP]) | simp only [encC, pairs, encCert, dec_self, renL_encP])
  all_goals
  refine Tri.cut (α := (cs : List CaseD) ×' (cs.length = 3 ∧ ∀ c, c ∈ cs → Held c)) (fun ⟨cs, hcs, hheld⟩ => ⟨[(1, encI how), (2, encI by_), (5, pairs bars), (13, .ptr 0 3 0 0), (14, .sl 3 (cs.map encC))], [(0, some ⟨3, [encC (madeC l)]⟩)], 1, []⟩) ?_ ?_
  ·skip
   refine rD 11 [1, 2, 5, 13, 14] (fun P GD S K => XvLoad P 25 (M S.hp S.nx) (S.get 13) (fun r0 ef0 => XvLoad P 25 (M S.hp S.nx) (S.get 13) (fun r1 ef1 => XvFnV P (M S.hp S.nx) (.fn 11 []) [r1, (S.get 1), (S.get 2)] (fun r4 ef4 => XvFnV P (M (Eff.hp ef4 S.nx S.hp) (S.nx + ef4.add.length)) (.fn 12 []) [(S.get 3), (S.get 4), (S.get 5)] (fun r8 ef8 => XvBuildS P 29 3 ((S.nx + ef4.add.length) + ef8.add.length) [(0, r0), (1, r4), (2, r8)] (fun r9 ef9 => (trOk S.nx GD [⟨S.nx, 0, ef0.rd, [], []⟩, ⟨S.nx, 0, ef1.rd, [], []⟩, ⟨S.nx, 0, [], [], []⟩, ⟨S.nx, 0, [], [], []⟩, (Eff.tr ef4 S.nx), ⟨(S.nx + ef4.add.length), 0, [], [], []⟩, ⟨(S.nx + ef4.add.length), 0, [], [], []⟩, ⟨(S.nx + ef4.add.length), 0, [], [], []⟩, (Eff.tr ef8 (S.nx + ef4.add.length)), (Eff.tr ef9 ((S.nx + ef4.add.length) + ef8.add.length)), ⟨(((S.nx + ef4.add.length) + ef8.add.length) + ef9.add.length), 0, [], [], []⟩] = true ∧ K ⟨[(1, S.get 1), (2, S.get 2), (5, S.get 5), (13, S.get 13), (14, r9)], (Eff.hp ef9 ((S.nx + ef4.add.length) + ef8.add.length) (Eff.hp ef8 (S.nx + ef4.add.length) (Eff.hp ef4 S.nx S.hp))), (((S.nx + ef4.add.length) + ef8.add.length) + ef9.add.length), S.gh⟩))))))) fun K hK => ?_
   repeat' (first | (refine hK _ ?_; clear hK K) | (refine (?_ : trOk _ _ _ = true); kernel_rfl) | ((first | refine xG_intro (fun hg => ?_) (fun hg => ?_) | refine fun (hg : (_ : Prop)) => ?_) <;> ((try simp only [BQ] at hg); try (exfalso; omega))) | refine And.intro ?_ ?_ | exact cl | exact one_encP _ | refine one_take ?_ _ | refine one_drop ?_ _ | refine .inl ⟨_, _, Spoilt_pure (madeC l) how by_ (made_good l) (by omega) hh hb, ?_⟩ | refine ⟨_, _, Spoilt_pure (madeC l) how by_ (made_good l) (by omega) hh hb, ?_⟩ | refine .inl ⟨_, _, of_pure sizes people bars hs hbr, ?_⟩ | refine ⟨_, _, of_pure sizes people bars hs hbr, ?_⟩ | refine .inl ⟨_, _, hlv, ?_⟩ | refine ⟨_, _, hlv, ?_⟩ | (refine st ?_; try simp only [encC, pairs, encCert, dec_self, renL_encP]) | simp only [encC, pairs, encCert, dec_self, renL_encP])
   all_goals
   refine ⟨⟨[madeC l, spoiltC (madeC l) how by_, ofC sizes people bars], rfl, held3 (made_held l) (spoilt_held (made_good l) (by omega)) (of_held hs hp hbr)⟩, [0], ?_⟩
   exact leqB25
  ·rintro ⟨cs, hcs, hheld⟩
   refine sZ [1, 2, 5, 14, 15] (fun P S K => XvLoad P 25 (M S.hp S.nx) (S.get 13) (fun r0 _ => XvFnIV P (M S.hp S.nx) (.fn 13 []) [r0] (fun r1 ef1 => XvExtract r1 0 (fun r3 _ => XvExtract r1 1 (fun r4 _ => XvExtract r1 2 (fun r5 _ => XvExtract r1 3 (fun r6 _ => XvAlloc P 31 (S.nx + ef1.add.length) (fun r7 ef7 => XvStore P 31 (M (Eff.hp ef7 (S.nx + ef1.add.length) (Eff.hp ef1 S.nx S.hp)) ((S.nx + ef1.add.length) + ef7.add.length)) r7 r5 (fun r10 ef10 => K ⟨[(1, S.get 1), (2, S.get 2), (5, S.get 5), (14, S.get 14), (15, r3)], (Eff.hp ef10 ((S.nx + ef1.add.length) + ef7.add.length) (Eff.hp ef7 (S.nx + ef1.add.length) (Eff.hp ef1 S.nx S.hp))), (((S.nx + ef1.add.length) + ef7.add.length) + ef10.add.length), S.gh⟩))))))))) fun K hK => ?_
   repeat' (first | (refine hK _ ?_; clear hK K) | ((first | refine xG_intro (fun hg => ?_) (fun hg => ?_) | refine fun (hg : (_ : Prop)) => ?_) <;> ((try simp only [BQ] at hg); try (exfalso; omega))) | refine And.intro ?_ ?_ | exact cl | exact one_encP _ | refine one_take ?_ _ | refine one_drop ?_ _ | refine .inl ⟨_, _, Find_pure (madeC l) (made_held l), ?_⟩ | refine ⟨_, _, Find_pure (madeC l) (made_held l), ?_⟩ | refine .inl ⟨_, _, hlv, ?_⟩ | refine ⟨_, _, hlv, ?_⟩ | (refine st ?_; try simp only [encC, pairs, encCert, dec_self, renL_encP]) | simp only [encC, pairs, encCert, dec_self, renL_encP])
   all_goals
   refine sD 14 [14, 19] (fun P GD S K => XvFnV P (M S.hp S.nx) (.fn 14 []) [(S.get 15), (S.get 1), (S.get 2)] (fun r4 ef4 => XvBuildS P 23 0 (S.nx + ef4.add.length) [] (fun r5 ef5 => XvLen P 23 (S.get 5) (fun r8 ef8 => XvMinMax false r8 (.atom (.int .i64 8)) (fun r9 ef9 => XvSliceV P 23 (S.get 5) none (some r9) (fun r10 ef10 => (23 = 23 ∧ XvAppend P 23 (M (Eff.hp ef5 (S.nx + ef4.add.length) (Eff.hp ef4 S.nx S.hp)) ((S.nx + ef4.add.length) + ef5.add.length)) r5 r10 (fun r11 ef11 => XvBuildS P 36 4 (((S.nx + ef4.add.length) + ef5.add.length) + ef11.add.length) [(0, (S.get 15)), (1, r4), (2, r11), (3, (.atom (.slice none 0 0)))] (fun r12 ef12 => (trOk S.nx GD [⟨S.nx, 0, [], [], []⟩, ⟨S.nx, 0, [], [], []⟩, ⟨S.nx, 0, [], [], []⟩, ⟨S.nx, 0, [], [], []⟩, (Eff.tr ef4 S.nx), (Eff.tr ef5 (S.nx + ef4.add.length)), ⟨((S.nx + ef4.add.length) + ef5.add.length), 0, [], [], []⟩, ⟨((S.nx + ef4.add.length) + ef5.add.length), 0, [], [], []⟩, ⟨((S.nx + ef4.add.length) + ef5.add.length), 0, ef8.rd, [], []⟩, ⟨((S.nx + ef4.add.length) + ef5.add.length), 0, ef9.rd, [], []⟩, ⟨((S.nx + ef4.add.length) + ef5.add.length), 0, ef10.rd, [], []⟩, (Eff.tr ef11 ((S.nx + ef4.add.length) + ef5.add.length)), (Eff.tr ef12 (((S.nx + ef4.add.length) + ef5.add.length) + ef11.add.length)), ⟨((((S.nx + ef4.add.length) + ef5.add.length) + ef11.add.length) + ef12.add.length), 0, [], [], []⟩] = true ∧ K ⟨[(14, S.get 14), (19, r12)], (Eff.hp ef12 (((S.nx + ef4.add.length) + ef5.add.length) + ef11.add.length) (Eff.hp ef11 ((S.nx + ef4.add.length) + ef5.add.length) (Eff.hp ef5 (S.nx + ef4.add.length) (Eff.hp ef4 S.nx S.hp)))), ((((S.nx + ef4.add.length) + ef5.add.length) + ef11.add.length) + ef12.add.length), S.gh⟩)))))))))) fun K hK => ?_
   repeat' (first | (refine hK _ ?_; clear hK K) | (refine (?_ : trOk _ _ _ = true); kernel_rfl) | ((first | refine xG_intro (fun hg => ?_) (fun hg => ?_) | refine fun (hg : (_ : Prop)) => ?_) <;> ((try simp only [BQ] at hg); try (exfalso; omega))) | refine And.intro ?_ ?_ | exact cl | exact one_encP _ | refine one_take ?_ _ | refine one_drop ?_ _ | refine .inl ⟨_, _, Bent_pure (findP (madeC l)) how by_ (by omega) hh hb, ?_⟩ | refine ⟨_, _, Bent_pure (findP (madeC l)) how by_ (by omega) hh hb, ?_⟩ | refine .inl ⟨_, _, hlv, ?_⟩ | refine ⟨_, _, hlv, ?_⟩ | (refine st ?_; try simp only [encC, pairs, encCert, dec_self, renL_encP]) | simp only [encC, pairs, encCert, dec_self, renL_encP])
   all_goals
   refine Tri.seq ?_
   refine Tri.nilE 4 3 2 1 _ rfl rfl ?_
   rw [show (min (bars.length : Int) 8).toNat - 0 = min bars.length 8 by omega, ← List.map_take, take_cut, show min (min bars.length 8) bars.length = (bars.take 8).length by rw [List.length_take]; omega]
   have hb8 : (bars.take 8).length ≤ 8 := by simp; omega
   generalize bars.take 8 = b8 at hb8 ⊢
   obtain ⟨Ls, hLe⟩ : ∃ Ls : List (List (Int × Int)), Ls = [findP (madeC l), bentP (findP (madeC l)) how by_, b8, []] := ⟨_, rfl⟩
   have hLs : Ls.length = 4 := by rw [hLe]; rfl
   have hlen : ∀ p, p ∈ Ls → p.length ≤ 1000000 := by rw [hLe]; exact len4 (by omega) (by have := bentP_len (findP (madeC l)) how by_; omega) (by omega)
   refine sZ [14, 19, 20] (fun P S K => K ⟨[(14, S.get 14), (19, S.get 19), (20, (.atom (.int .i64 0)))], S.hp, S.nx, S.gh⟩) fun K hK => ?_
   repeat' (first | (refine hK _ ?_; clear hK K) | ((first | refine xG_intro (fun hg => ?_) (fun hg => ?_) | refine fun (hg : (_ : Prop)) => ?_) <;> ((try simp only [BQ] at hg); try (exfalso; omega))) | refine And.intro ?_ ?_ | exact cl | exact one_encP _ | refine one_take ?_ _ | refine one_drop ?_ _ | (refine st ?_; try simp only [encC, pairs, encCert, dec_self, renL_encP]) | simp only [encC, pairs, encCert, dec_self, renL_encP])
   all_goals
   refine Tri.block ?_
   refine Tri.loop (α := (i : Nat) ×' (i ≤ 3)) (fun z => (fun (i : Nat) => (⟨[(14, .sl 3 (cs.map encC)), (19, .sl 1 (Ls.map pairs)), (20, encI i)], [], 0, []⟩ : St)) z.1) (fun z => (fun (i : Nat) => 3 - i) z.1) ⟨0, by omega⟩ [] ?_ ?_
   ·rw [hLe]
    exact leqB25
   ·rintro ⟨i, hi⟩
    refine Tri.seq ?_
    refine sZ [14, 19, 20, 61] (fun P S K => XvLen P 29 (S.get 14) (fun r2 _ => XvBinOV P .lss 3 (.tmp 60) (S.get 20) r2 (fun r3 _ => K ⟨[(14, S.get 14), (19, S.get 19), (20, S.get 20), (61, r3)], S.hp, S.nx, S.gh⟩))) fun K hK => ?_
    repeat' (first | (refine hK _ ?_; clear hK K) | ((first | refine xG_intro (fun hg => ?_) (fun hg => ?_) | refine fun (hg : (_ : Prop)) => ?_) <;> ((try simp only [BQ] at hg); try (exfalso; omega))) | refine And.intro ?_ ?_ | exact cl | exact one_encP _ | refine one_take ?_ _ | refine one_drop ?_ _ | (refine st ?_; try simp only [encC, pairs, encCert, dec_self, renL_encP]) | simp only [encC, pairs, encCert, dec_self, renL_encP])
    all_goals
    refine Tri.cond rfl (fun h61 => ?_) (fun h61 => ?_)
    ·try (cases h61; done)
     all_goals (try simp only [CQ] at h61)
     all_goals
     refine Tri.skip ?_
     refine Tri.seq ?_
     refine Tri.block ?_
     refine Tri.seq ?_
     have hi3 : i < cs.length := by omega
     have hci := hheld _ (getD_in (d := ⟨[], 0, []⟩) hi3)
     refine sD 12 [14, 19, 20, 75] (fun P GD S K => XvIndexAddr P 29 (S.get 14) (S.get 20) (fun r2 ef2 => XvLoad P 25 (M S.hp S.nx) r2 (fun r3 ef3 => XvFnV P (M S.hp S.nx) (.fn 16 []) [r3] (fun r4 ef4 => XvFnV P (M (Eff.hp ef4 S.nx S.hp) (S.nx + ef4.add.length)) (.fn 15 []) [r4] (fun r5 ef5 => XvIndexAddr P 29 (S.get 14) (S.get 20) (fun r8 ef8 => XvLoad P 25 (M (Eff.hp ef5 (S.nx + ef4.add.length) (Eff.hp ef4 S.nx S.hp)) ((S.nx + ef4.add.length) + ef5.add.length)) r8 (fun r9 ef9 => XvFnV P (M (Eff.hp ef5 (S.nx + ef4.add.length) (Eff.hp ef4 S.nx S.hp)) ((S.nx + ef4.add.length) + ef5.add.length)) (.fn 17 []) [r9] (fun r10 ef10 => XvBinOV P .neq 32 (.tmp 74) r5 r10 (fun r11 ef11 => (trOk S.nx GD [⟨S.nx, 0, [], [], []⟩, ⟨S.nx, 0, [], [], []⟩, ⟨S.nx, 0, ef2.rd, [], []⟩, ⟨S.nx, 0, ef3.rd, [], []⟩, (Eff.tr ef4 S.nx), (Eff.tr ef5 (S.nx + ef4.add.length)), ⟨((S.nx + ef4.add.length) + ef5.add.length), 0, [], [], []⟩, ⟨((S.nx + ef4.add.length) + ef5.add.length), 0, [], [], []⟩, ⟨((S.nx + ef4.add.length) + ef5.add.length), 0, ef8.rd, [], []⟩, ⟨((S.nx + ef4.add.length) + ef5.add.length), 0, ef9.rd, [], []⟩, (Eff.tr ef10 ((S.nx + ef4.add.length) + ef5.add.length)), ⟨(((S.nx + ef4.add.length) + ef5.add.length) + ef10.add.length), 0, ef11.rd, [], []⟩] = true ∧ K ⟨[(14, S.get 14), (19, S.get 19), (20, S.get 20), (75, r11)], (Eff.hp ef10 ((S.nx + ef4.add.length) + ef5.add.length) (Eff.hp ef5 (S.nx + ef4.add.length) (Eff.hp ef4 S.nx S.hp))), (((S.nx + ef4.add.length) + ef5.add.length) + ef10.add.length), S.gh⟩)))))))))) fun K hK => ?_
     repeat' (first | (refine hK _ ?_; clear hK K) | (refine (?_ : trOk _ _ _ = true); kernel_rfl) | ((first | refine xG_intro (fun hg => ?_) (fun hg => ?_) | refine fun (hg : (_ : Prop)) => ?_) <;> ((try simp only [BQ] at hg); try (exfalso; omega))) | refine And.intro ?_ ?_ | exact cl | exact one_encP _ | refine one_take ?_ _ | refine one_drop ?_ _ | refine .inl ⟨_, _, own_pure (cs.getD i ⟨[], 0, []⟩), ?_⟩ | refine ⟨_, _, own_pure (cs.getD i ⟨[], 0, []⟩), ?_⟩ | refine .inl ⟨_, _, aValid_pure (cs.getD i ⟨[], 0, []⟩) hci, ?_⟩ | refine ⟨_, _, aValid_pure (cs.getD i ⟨[], 0, []⟩) hci, ?_⟩ | refine .inl ⟨_, _, rValid_pure (cs.getD i ⟨[], 0, []⟩) hci, ?_⟩ | refine ⟨_, _, rValid_pure (cs.getD i ⟨[], 0, []⟩) hci, ?_⟩ | refine .inl ⟨_, _, hlv, ?_⟩ | refine ⟨_, _, hlv, ?_⟩ | (refine st ?_; try simp only [encC, pairs, encCert, dec_self, renL_encP, getD_encC hi3]) | simp only [encC, pairs, encCert, dec_self, renL_encP, getD_encC hi3])
     all_goals
     refine Tri.cond rfl (fun h75 => ?_) (fun h75 => ?_)
     ·try (cases h75; done)
      all_goals (try simp only [CQ] at h75)
      all_goals
      refine sZ [12] (fun P S K => K ⟨[(12, (.atom (.bool false)))], S.hp, S.nx, S.gh⟩) fun K hK => ?_
      repeat' (first | (refine hK _ ?_; clear hK K) | ((first | refine xG_intro (fun hg => ?_) (fun hg => ?_) | refine fun (hg : (_ : Prop)) => ?_) <;> ((try simp only [BQ] at hg); try (exfalso; omega))) | refine And.intro ?_ ?_ | exact cl | exact one_encP _ | refine one_take ?_ _ | refine one_drop ?_ _ | (refine st ?_; try simp only [encC, pairs, encCert, dec_self, renL_encP]) | simp only [encC, pairs, encCert, dec_self, renL_encP])
      all_goals
      refine Tri.ret ?_
      show ResOk _ _ _ _
      exact ResOk.val lsrB25 lpvB25
     ·try (cases h75; done)
      all_goals (try simp only [CQ] at h75)
      all_goals
      refine Tri.skip ?_
      refine sZ [14, 19, 20, 21] (fun P S K => K ⟨[(14, S.get 14), (19, S.get 19), (20, S.get 20), (21, (.atom (.int .i64 0)))], S.hp, S.nx, S.gh⟩) fun K hK => ?_
      repeat' (first | (refine hK _ ?_; clear hK K) | ((first | refine xG_intro (fun hg => ?_) (fun hg => ?_) | refine fun (hg : (_ : Prop)) => ?_) <;> ((try simp only [BQ] at hg); try (exfalso; omega))) | refine And.intro ?_ ?_ | exact cl | exact one_encP _ | refine one_take ?_ _ | refine one_drop ?_ _ | (refine st ?_; try simp only [encC, pairs, encCert, dec_self, renL_encP]) | simp only [encC, pairs, encCert, dec_self, renL_encP])
      all_goals
      refine Tri.block ?_
      refine Tri.loop (α := (k : Nat) ×' (k ≤ 4)) (fun z => (fun (k : Nat) => (⟨[(14, .sl 3 (cs.map encC)), (19, .sl 1 (Ls.map pairs)), (20, encI i), (21, encI k)], [], 0, []⟩ : St)) z.1) (fun z => (fun (k : Nat) => 4 - k) z.1) ⟨0, by omega⟩ [] ?_ ?_
      ·exact leqB25
      ·rintro ⟨k, hk⟩
       refine Tri.seq ?_
       refine sZ [14, 19, 20, 21, 79] (fun P S K => XvLen P 36 (S.get 19) (fun r2 _ => XvBinOV P .lss 3 (.tmp 78) (S.get 21) r2 (fun r3 _ => K ⟨[(14, S.get 14), (19, S.get 19), (20, S.get 20), (21, S.get 21), (79, r3)], S.hp, S.nx, S.gh⟩))) fun K hK => ?_
       repeat' (first | (refine hK _ ?_; clear hK K) | ((first | refine xG_intro (fun hg => ?_) (fun hg => ?_) | refine fun (hg : (_ : Prop)) => ?_) <;> ((try simp only [BQ] at hg); try (exfalso; omega))) | refine And.intro ?_ ?_ | exact cl | exact one_encP _ | refine one_take ?_ _ | refine one_drop ?_ _ | (refine st ?_; try simp only [encC, pairs, encCert, dec_self, renL_encP]) | simp only [encC, pairs, encCert, dec_self, renL_encP])
       all_goals
       refine Tri.cond rfl (fun h79 => ?_) (fun h79 => ?_)
       ·try (cases h79; done)
        all_goals (try simp only [CQ] at h79)
        all_goals
        refine Tri.skip ?_
        refine Tri.seq ?_
        refine Tri.block ?_
        have hk4 : k < Ls.length := by omega
        have hlk := hlen _ (getD_in (d := []) hk4)
        have hsh := loadsR_short (cs.getD i ⟨[], 0, []⟩) (Ls.getD k [])
        refine sD 15 [14, 19, 20, 21, 22, 23] (fun P GD S K => XvIndexAddr P 29 (S.get 14) (S.get 20) (fun r2 ef2 => XvLoad P 25 (M S.hp S.nx) r2 (fun r3 ef3 => XvFnV P (M S.hp S.nx) (.fn 16 []) [r3] (fun r4 ef4 => XvIndexAddr P 36 (S.get 19) (S.get 21) (fun r7 ef7 => XvLoad P 23 (M (Eff.hp ef4 S.nx S.hp) (S.nx + ef4.add.length)) r7 (fun r8 ef8 => XvFnV P (M (Eff.hp ef4 S.nx S.hp) (S.nx + ef4.add.length)) (.fn 18 []) [r4, r8] (fun r9 ef9 => XvExtract r9 0 (fun r11 ef11 => XvExtract r9 1 (fun r12 ef12 => (trOk S.nx GD [⟨S.nx, 0, [], [], []⟩, ⟨S.nx, 0, [], [], []⟩, ⟨S.nx, 0, ef2.rd, [], []⟩, ⟨S.nx, 0, ef3.rd, [], []⟩, (Eff.tr ef4 S.nx), ⟨(S.nx + ef4.add.length), 0, [], [], []⟩, ⟨(S.nx + ef4.add.length), 0, [], [], []⟩, ⟨(S.nx + ef4.add.length), 0, ef7.rd, [], []⟩, ⟨(S.nx + ef4.add.length), 0, ef8.rd, [], []⟩, (Eff.tr ef9 (S.nx + ef4.add.length)), ⟨((S.nx + ef4.add.length) + ef9.add.length), 0, [], [], []⟩, ⟨((S.nx + ef4.add.length) + ef9.add.length), 0, ef11.rd, [], []⟩, ⟨((S.nx + ef4.add.length) + ef9.add.length), 0, ef12.rd, [], []⟩, ⟨((S.nx + ef4.add.length) + ef9.add.length), 0, [], [], []⟩, ⟨((S.nx + ef4.add.length) + ef9.add.length), 0, [], [], []⟩] = true ∧ K ⟨[(14, S.get 14), (19, S.get 19), (20, S.get 20), (21, S.get 21), (22, r11), (23, r12)], (Eff.hp ef9 (S.nx + ef4.add.length) (Eff.hp ef4 S.nx S.hp)), ((S.nx + ef4.add.length) + ef9.add.length), S.gh⟩)))))))))) fun K hK => ?_
        repeat' (first | (refine hK _ ?_; clear hK K) | (refine (?_ : trOk _ _ _ = true); kernel_rfl) | ((first | refine xG_intro (fun hg => ?_) (fun hg => ?_) | refine fun (hg : (_ : Prop)) => ?_) <;> ((try simp only [BQ] at hg); try (exfalso; omega))) | refine And.intro ?_ ?_ | exact cl | exact one_encP _ | refine one_take ?_ _ | refine one_drop ?_ _ | refine .inl ⟨_, _, own_pure (cs.getD i ⟨[], 0, []⟩), ?_⟩ | refine ⟨_, _, own_pure (cs.getD i ⟨[], 0, []⟩), ?_⟩ | refine .inl ⟨_, _, aLoads_pure (cs.getD i ⟨[], 0, []⟩) (Ls.getD k []) hci hlk, ?_⟩ | refine ⟨_, _, aLoads_pure (cs.getD i ⟨[], 0, []⟩) (Ls.getD k []) hci hlk, ?_⟩ | refine .inl ⟨_, _, hlv, ?_⟩ | refine ⟨_, _, hlv, ?_⟩ | (refine st ?_; try simp only [encC, pairs, encCert, dec_self, renL_encP, getD_encC hi3, getD_pairsL hk4]) | simp only [encC, pairs, encCert, dec_self, renL_encP, getD_encC hi3, getD_pairsL hk4])
        all_goals
        refine sD 14 [14, 19, 20, 21, 22, 23, 24, 25] (fun P GD S K => XvIndexAddr P 29 (S.get 14) (S.get 20) (fun r2 ef2 => XvLoad P 25 (M S.hp S.nx) r2 (fun r3 ef3 => XvIndexAddr P 36 (S.get 19) (S.get 21) (fun r6 ef6 => XvLoad P 23 (M S.hp S.nx) r6 (fun r7 ef7 => XvFnV P (M S.hp S.nx) (.fn 19 []) [r3, r7] (fun r8 ef8 => XvExtract r8 0 (fun r10 ef10 => XvExtract r8 1 (fun r11 ef11 => (trOk S.nx GD [⟨S.nx, 0, [], [], []⟩, ⟨S.nx, 0, [], [], []⟩, ⟨S.nx, 0, ef2.rd, [], []⟩, ⟨S.nx, 0, ef3.rd, [], []⟩, ⟨S.nx, 0, [], [], []⟩, ⟨S.nx, 0, [], [], []⟩, ⟨S.nx, 0, ef6.rd, [], []⟩, ⟨S.nx, 0, ef7.rd, [], []⟩, (Eff.tr ef8 S.nx), ⟨(S.nx + ef8.add.length), 0, [], [], []⟩, ⟨(S.nx + ef8.add.length), 0, ef10.rd, [], []⟩, ⟨(S.nx + ef8.add.length), 0, ef11.rd, [], []⟩, ⟨(S.nx + ef8.add.length), 0, [], [], []⟩, ⟨(S.nx + ef8.add.length), 0, [], [], []⟩] = true ∧ K ⟨[(14, S.get 14), (19, S.get 19), (20, S.get 20), (21, S.get 21), (22, S.get 22), (23, S.get 23), (24, r10), (25, r11)], (Eff.hp ef8 S.nx S.hp), (S.nx + ef8.add.length), S.gh⟩))))))))) fun K hK => ?_
        repeat' (first | (refine hK _ ?_; clear hK K) | (refine (?_ : trOk _ _ _ = true); kernel_rfl) | ((first | refine xG_intro (fun hg => ?_) (fun hg => ?_) | refine fun (hg : (_ : Prop)) => ?_) <;> ((try simp only [BQ] at hg); try (exfalso; omega))) | refine And.intro ?_ ?_ | exact cl | exact one_encP _ | refine one_take ?_ _ | refine one_drop ?_ _ | refine .inl ⟨_, _, rLoads_pure (cs.getD i ⟨[], 0, []⟩) (Ls.getD k []) hci hlk, ?_⟩ | refine ⟨_, _, rLoads_pure (cs.getD i ⟨[], 0, []⟩) (Ls.getD k []) hci hlk, ?_⟩ | refine .inl ⟨_, _, hlv, ?_⟩ | refine ⟨_, _, hlv, ?_⟩ | (refine st ?_; try simp only [encC, pairs, encCert, dec_self, renL_encP, getD_encC hi3, getD_pairsL hk4]) | simp only [encC, pairs, encCert, dec_self, renL_encP, getD_encC hi3, getD_pairsL hk4])
        all_goals
        refine sZ [14, 19, 20, 21, 115] (fun P S K => XvBinOV P .neq 32 (.tmp 108) (S.get 23) (S.get 25) (fun r2 _ => Xgq r2 false (fun k => k (S.get 22)) (fun g4 r4 => Xgq g4 false (fun k => k (S.get 24)) (fun g5 r5 => Xge g5 false (fun k => XvFnIV P (M S.hp S.nx) (.fn 20 []) [r4, r5] k) (fun g6 r6 ef6 => Xgq g6 false (fun k => XvUn .not r6 (fun r7 _ => k r7)) (fun g7 r7 => XvPick g7 (.atom (.bool true)) r7 (fun r8 _ => K ⟨[(14, S.get 14), (19, S.get 19), (20, S.get 20), (21, S.get 21), (115, r8)], (Eff.hp ef6 S.nx S.hp), (S.nx + ef6.add.length), S.gh⟩))))))) fun K hK => ?_
        repeat' (first | (refine hK _ ?_; clear hK K) | ((first | refine xG_intro (fun hg => ?_) (fun hg => ?_) | refine fun (hg : (_ : Prop)) => ?_) <;> ((try simp only [BQ] at hg); try (exfalso; omega))) | refine And.intro ?_ ?_ | exact cl | exact one_encP _ | refine one_take ?_ _ | refine one_drop ?_ _ | refine .inl ⟨_, _, SameInts_pure (loadsR (cs.getD i ⟨[], 0, []⟩) (Ls.getD k [])) (loadsR (cs.getD i ⟨[], 0, []⟩) (Ls.getD k [])) (by omega) (by omega), ?_⟩ | refine ⟨_, _, SameInts_pure (loadsR (cs.getD i ⟨[], 0, []⟩) (Ls.getD k [])) (loadsR (cs.getD i ⟨[], 0, []⟩) (Ls.getD k [])) (by omega) (by omega), ?_⟩ | refine .inl ⟨_, _, hlv, ?_⟩ | refine ⟨_, _, hlv, ?_⟩ | (refine st ?_; try simp only [encC, pairs, encCert, dec_self, renL_encP]) | simp only [encC, pairs, encCert, dec_self, renL_encP])
        all_goals try simp (disch := omega) only [wrap_id, wrap8_id]
        all_goals
        refine Tri.cond rfl (fun h115 => ?_) (fun h115 => ?_)
        ·try (cases h115; done)
         all_goals (try simp only [CQ] at h115)
         all_goals
         refine sZ [12] (fun P S K => K ⟨[(12, (.atom (.bool false)))], S.hp, S.nx, S.gh⟩) fun K hK => ?_
         repeat' (first | (refine hK _ ?_; clear hK K) | ((first | refine xG_intro (fun hg => ?_) (fun hg => ?_) | refine fun (hg : (_ : Prop)) => ?_) <;> ((try simp only [BQ] at hg); try (exfalso; omega))) | refine And.intro ?_ ?_ | exact cl | exact one_encP _ | refine one_take ?_ _ | refine one_drop ?_ _ | (refine st ?_; try simp only [encC, pairs, encCert, dec_self, renL_encP]) | simp only [encC, pairs, encCert, dec_self, renL_encP])
         all_goals
         refine Tri.ret ?_
         show ResOk _ _ _ _
         exact ResOk.val lsrB25 lpvB25
        ·try (cases h115; done)
         all_goals (try simp only [CQ] at h115)
         all_goals
         refine Tri.skip ?_
         refine rZ [14, 19, 20, 21] (fun P S K => XvBinOV P .add 3 (.const (.int .i64 1)) (S.get 21) (.atom (.int .i64 1)) (fun r1 _ => K ⟨[(14, S.get 14), (19, S.get 19), (20, S.get 20), (21, r1)], S.hp, S.nx, S.gh⟩)) fun K hK => ?_
         repeat' (first | (refine hK _ ?_; clear hK K) | ((first | refine xG_intro (fun hg => ?_) (fun hg => ?_) | refine fun (hg : (_ : Prop)) => ?_) <;> ((try simp only [BQ] at hg); try (exfalso; omega))) | refine And.intro ?_ ?_ | exact cl | exact one_encP _ | refine one_take ?_ _ | refine one_drop ?_ _ | (refine st ?_; try simp only [encC, pairs, encCert, dec_self, renL_encP]) | simp only [encC, pairs, encCert, dec_self, renL_encP])
         all_goals try simp (disch := omega) only [wrap_id, wrap8_id]
         all_goals
         refine ⟨⟨k + 1, by omega⟩, [], by dsimp only; omega, ?_⟩
         exact leqB25
       ·try (cases h79; done)
        all_goals (try simp only [CQ] at h79)
        all_goals
        refine Tri.exit ?_
        refine rZ [14, 19, 20] (fun P S K => XvBinOV P .add 3 (.const (.int .i64 1)) (S.get 20) (.atom (.int .i64 1)) (fun r1 _ => K ⟨[(14, S.get 14), (19, S.get 19), (20, r1)], S.hp, S.nx, S.gh⟩)) fun K hK => ?_
        repeat' (first | (refine hK _ ?_; clear hK K) | ((first | refine xG_intro (fun hg => ?_) (fun hg => ?_) | refine fun (hg : (_ : Prop)) => ?_) <;> ((try simp only [BQ] at hg); try (exfalso; omega))) | refine And.intro ?_ ?_ | exact cl | exact one_encP _ | refine one_take ?_ _ | refine one_drop ?_ _ | (refine st ?_; try simp only [encC, pairs, encCert, dec_self, renL_encP]) | simp only [encC, pairs, encCert, dec_self, renL_encP])
        all_goals try simp (disch := omega) only [wrap_id, wrap8_id]
        all_goals
        refine ⟨⟨i + 1, by omega⟩, [], by dsimp only; omega, ?_⟩
        exact leqB25
    ·try (cases h61; done)
     all_goals (try simp only [CQ] at h61)
     all_goals
     refine Tri.exit ?_
     refine sZ [12] (fun P S K => XvFnIV P (M S.hp S.nx) (.fn 21 []) [] (fun r0 ef0 => K ⟨[(12, r0)], (Eff.hp ef0 S.nx S.hp), (S.nx + ef0.add.length), S.gh⟩)) fun K hK => ?_
     repeat' (first | (refine hK _ ?_; clear hK K) | ((first | refine xG_intro (fun hg => ?_) (fun hg => ?_) | refine fun (hg : (_ : Prop)) => ?_) <;> ((try simp only [BQ] at hg); try (exfalso; omega))) | refine And.intro ?_ ?_ | exact cl | exact one_encP _ | refine one_take ?_ _ | refine one_drop ?_ _ | refine .inl ⟨_, _, hlv, ?_⟩ | refine ⟨_, _, hlv, ?_⟩ | (refine st ?_; try simp only [encC, pairs, encCert, dec_self, renL_encP]) | simp only [encC, pairs, encCert, dec_self, renL_encP])
     all_goals
     refine Tri.ret ?_
     show ResOk _ _ _ _
     exact ResOk.val lsrB25 lpvB25
end Go.Proofs.Ytcdeilgijleoaaa
set_option linter.all false
namespace Go.Proofs.Ytcdeilgijleoaaa
open Go Go.RowKit
set_option maxRecDepth 100000
def nilV : PV := .atom (.slice none 0 0)
def arg1 : List PV := [.agg [.ob 0 1 0 3, encI 3, nilV]]
def hp1 : List AO := [⟨1, [3, 2, 2].map encI⟩]
def res1 : CallR := (.tup [.ob 1 2 0 3, encI 5, .agg [.ob 2 1 0 3, .ob 3 1 0 3, encI 5], encI 0], hp1.map some, [⟨2, [(0, 1), (0, 2), (1, 2)].map encP⟩, ⟨1, [0, 1, 2].map encI⟩, ⟨1, [0, 1, 2].map encI⟩])
theorem run_find1 : sameR (gRun Try.prog tbl0 [] 60 22 arg1 hp1) res1 = true := by kernel_rfl
end Go.Proofs.Ytcdeilgijleoaaa
set_option linter.all false
namespace Go.Proofs.Ytcdeilgijleoaaa
open Go Go.RowKit
set_option maxRecDepth 100000
def arg2 : List PV := [.agg [.ob 0 1 0 2, encI 3, .atom (.slice none 0 0)]]
def hp2 : List AO := [⟨1, [5, 1].map encI⟩]
def res2 : CallR := (.tup [.ob 1 2 0 2, encI 6, .agg [.ob 2 1 0 1, .atom (.slice none 0 0), encI 5], encI 0], hp2.map some, [⟨2, [(0, 1), (0, 1)].map encP⟩, ⟨1, [0].map encI⟩])
theorem run_find2 : sameR (gRun Try.prog tbl0 [] 60 22 arg2 hp2) res2 = true := by kernel_rfl
end Go.Proofs.Ytcdeilgijleoaaa
set_option linter.all false
namespace Go.Proofs.Ytcdeilgijleoaaa
open Go Go.RowKit
set_option maxRecDepth 100000
def arg3 : List PV := [.agg [.ob 0 1 0 2, encI 3, .ob 1 2 0 2]]
def hp3 : List AO := [⟨1, [2, 2].map encI⟩, ⟨2, [(0, 2), (1, 2)].map encP⟩]
def res3 : CallR := (.tup [.ob 2 2 0 2, encI 4, .agg [.ob 3 1 0 2, .ob 4 1 0 1, encI 4], encI 0], hp3.map some, [⟨2, [(0, 1), (0, 1)].map encP⟩, ⟨1, [0, 1].map encI⟩, ⟨1, [0].map encI⟩])
theorem run_find3 : sameR (gRun Try.prog tbl0 [] 60 22 arg3 hp3) res3 = true := by kernel_rfl
end Go.Proofs.Ytcdeilgijleoaaa
set_option linter.all false
namespace Go.Proofs.Ytcdeilgijleoaaa
open Go Go.RowKit
set_option maxRecDepth 100000
def tb1 : CallT := tblAdd 22 arg1 hp1 res1 tbl0
def tb2 : CallT := tblAdd 22 arg2 hp2 res2 tb1
def tb3 : CallT := tblAdd 22 arg3 hp3 res3 tb2
theorem tb1_ok : CallOk Try.prog tb1 := callOk_put tbl0_ok (gRun_ok tbl0_ok mixed 60 _ _ _ _ _ _ (sameR_eq run_find1))
theorem tb2_ok : CallOk Try.prog tb2 := callOk_put tb1_ok (gRun_ok tbl0_ok mixed 60 _ _ _ _ _ _ (sameR_eq run_find2))
theorem tb3_ok : CallOk Try.prog tb3 := callOk_put tb2_ok (gRun_ok tbl0_ok mixed 60 _ _ _ _ _ _ (sameR_eq run_find3))
theorem run_lives : sameR (gRun Try.prog tb3 [] 60 21 [] []) (.atom (.bool true), [], []) = true := by kernel_rfl
theorem lives_pure : Pure Try.prog 21 [] (.atom (.bool true)) [] := run_pure (x := (.atom (.bool true), [], [])) tb3_ok mixed run_lives rfl
end Go.Proofs.Ytcdeilgijleoaaa
