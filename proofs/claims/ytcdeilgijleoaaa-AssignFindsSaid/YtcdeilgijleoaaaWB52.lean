/-
  The clean machine: a nil cell of an element of an own row, seen as a frozen row that is empty.
-/
import Derived.Test.YtcdeilgijleoaaaWA2
import Derived.Test.YtcdeilgijleoaaaWA1
import Derived.Test.YtcdeilgijleoaaaWB30
import Derived.Test.YtcdeilgijleoaaaWB15
import Derived.Test.YtcdeilgijleoaaaWB17
import Derived.Test.YtcdeilgijleoaaaWB50
set_option linter.all false
namespace Go.Proofs.Ytcdeilgijleoaaa
open Go Go.RowKit
set_option maxRecDepth 20000
set_option maxHeartbeats 1000000
def FitsP (l : List (Int × Int)) : Prop := (∀ p, p ∈ l → I64 p.1 ∧ I64 p.2) ∧ l.length ≤ 9223372036854775807
theorem pureL_encC (l : List CaseD) : pureL (l.map encC) = true := pureL_map encC pure_case l
theorem getD_encC {l : List CaseD} {k : Nat} (h : k < l.length) : (l.map encC).getD k .junk = encC (l.getD k ⟨[], 0, []⟩) := by
  simp [List.getD_eq_getElem?_getD, h]
theorem getD_in {α : Type} {l : List α} {k : Nat} {d : α} (h : k < l.length) : l.getD k d ∈ l := by simp [List.getD_eq_getElem?_getD, h]
theorem take_cut {α : Type} (l : List α) (n : Nat) : l.take (min l.length n) = l.take n := by rw [Nat.min_comm, ← List.take_eq_take_min]
theorem own_pure (c : CaseD) : Pure Try.prog 16 [encC c] (encC c) [] := by
  refine Pure.introR (rv := [.cell 2 38]) Try.func16 (by kernel_rfl) rfl rfl rfl (Nat.le_of_ble_eq_true rfl) ?_ ?_
  · simp [pure_case, PV.pure, pureL]
  refine sZ [1, 2] (fun P S K => XvBox S.nx (S.get 0) (fun r0 ef0 => XvAlloc P 38 (S.nx + ef0.add.length) (fun r1 ef1 => K ⟨[(1, r0), (2, r1)], (Eff.hp ef1 (S.nx + ef0.add.length) (Eff.hp ef0 S.nx S.hp)), ((S.nx + ef0.add.length) + ef1.add.length), S.gh⟩))) fun K hK => ?_
  repeat' (first | (refine hK _ ?_; clear hK K) | refine And.intro ?_ ?_ | exact cl | (refine st ?_; try simp only [encC, pairs]) | simp only [encC, pairs])
  all_goals
  refine sZ [2] (fun P S K => XvFieldAddr P 25 0 (S.get 1) (fun r0 _ => XvLoad P 22 (M S.hp S.nx) r0 (fun r1 _ => XvFieldAddr P 25 1 (S.get 1) (fun r2 _ => XvLoad P 3 (M S.hp S.nx) r2 (fun r3 _ => XvFieldAddr P 25 2 (S.get 1) (fun r4 _ => XvLoad P 23 (M S.hp S.nx) r4 (fun r5 _ => XvBuild P 38 [(0, r1), (1, r3), (2, r5)] (fun r6 _ => XvStore P 38 (M S.hp S.nx) (S.get 2) r6 (fun r7 ef7 => K ⟨[(2, S.get 2)], (Eff.hp ef7 S.nx S.hp), (S.nx + ef7.add.length), S.gh⟩))))))))) fun K hK => ?_
  repeat' (first | (refine hK _ ?_; clear hK K) | refine And.intro ?_ ?_ | exact cl | (refine st ?_; try simp only [encC, pairs]) | simp only [encC, pairs])
  all_goals
  refine Tri.ret ?_
  show ResR _ _ _ _ _
  refine ResR.cell1 (encC c) rfl ?_ (pure_case _)
  exact sealed_pure _ _ _ (pure_case _)
def ofC (sizes : List Int) (people : Int) (bars : List (Int × Int)) : CaseD := ⟨sizes.take 4, people, bars.take 8⟩
theorem of_held {sizes : List Int} {people : Int} {bars : List (Int × Int)} (h1 : Fits sizes) (h2 : I64 people) (h3 : FitsP bars) : Held (ofC sizes people bars) :=
  ⟨by simp [ofC]; omega, by simp [ofC]; omega, h2, fun x hx => h1.1 x (List.mem_of_mem_take hx), fun p hp => h3.1 p (List.mem_of_mem_take hp)⟩
theorem of_pure (sizes : List Int) (people : Int) (bars : List (Int × Int)) (h1 : Fits sizes) (h3 : FitsP bars) : Pure Try.prog 12 [ints sizes, encI people, pairs bars] (encC (ofC sizes people bars)) [] := by
  have hl1 := h1.2
  have hl3 := h3.2
  refine Pure.introR (rv := [.cell 6 25]) Try.func12 (by kernel_rfl) rfl rfl rfl (Nat.le_of_ble_eq_true rfl) ?_ ?_
  · simp [pure_ints, pure_pairs, encI, PV.pure, pureL]
  refine sZ [0, 1, 2, 6] (fun P S K => XvAlloc P 25 S.nx (fun r0 ef0 => K ⟨[(0, S.get 0), (1, S.get 1), (2, S.get 2), (6, r0)], (Eff.hp ef0 S.nx S.hp), (S.nx + ef0.add.length), S.gh⟩)) fun K hK => ?_
  repeat' (first | (refine hK _ ?_; clear hK K) | refine And.intro ?_ ?_ | exact cl | exact one_encP _ | (refine st ?_; try simp only [encC, pairs]) | simp only [encC, pairs])
  all_goals
  refine sD 16 [6] (fun P GD S K => XvBuildS P 22 0 S.nx [] (fun r0 ef0 => XvLen P 22 (S.get 0) (fun r3 ef3 => XvMinMax false r3 (.atom (.int .i64 4)) (fun r4 ef4 => XvSliceV P 22 (S.get 0) none (some r4) (fun r5 ef5 => (22 = 22 ∧ XvAppend P 22 (M (Eff.hp ef0 S.nx S.hp) (S.nx + ef0.add.length)) r0 r5 (fun r6 ef6 => XvBuildS P 23 0 ((S.nx + ef0.add.length) + ef6.add.length) [] (fun r8 ef8 => XvLen P 23 (S.get 2) (fun r11 ef11 => XvMinMax false r11 (.atom (.int .i64 8)) (fun r12 ef12 => XvSliceV P 23 (S.get 2) none (some r12) (fun r13 ef13 => (23 = 23 ∧ XvAppend P 23 (M (Eff.hp ef8 ((S.nx + ef0.add.length) + ef6.add.length) (Eff.hp ef6 (S.nx + ef0.add.length) (Eff.hp ef0 S.nx S.hp))) (((S.nx + ef0.add.length) + ef6.add.length) + ef8.add.length)) r8 r13 (fun r14 ef14 => XvBuild P 25 [(0, r6), (1, (S.get 1)), (2, r14)] (fun r15 ef15 => (trOk S.nx GD [(Eff.tr ef0 S.nx), ⟨(S.nx + ef0.add.length), 0, [], [], []⟩, ⟨(S.nx + ef0.add.length), 0, [], [], []⟩, ⟨(S.nx + ef0.add.length), 0, ef3.rd, [], []⟩, ⟨(S.nx + ef0.add.length), 0, ef4.rd, [], []⟩, ⟨(S.nx + ef0.add.length), 0, ef5.rd, [], []⟩, (Eff.tr ef6 (S.nx + ef0.add.length)), ⟨((S.nx + ef0.add.length) + ef6.add.length), 0, [], [], []⟩, (Eff.tr ef8 ((S.nx + ef0.add.length) + ef6.add.length)), ⟨(((S.nx + ef0.add.length) + ef6.add.length) + ef8.add.length), 0, [], [], []⟩, ⟨(((S.nx + ef0.add.length) + ef6.add.length) + ef8.add.length), 0, [], [], []⟩, ⟨(((S.nx + ef0.add.length) + ef6.add.length) + ef8.add.length), 0, ef11.rd, [], []⟩, ⟨(((S.nx + ef0.add.length) + ef6.add.length) + ef8.add.length), 0, ef12.rd, [], []⟩, ⟨(((S.nx + ef0.add.length) + ef6.add.length) + ef8.add.length), 0, ef13.rd, [], []⟩, (Eff.tr ef14 (((S.nx + ef0.add.length) + ef6.add.length) + ef8.add.length)), ⟨((((S.nx + ef0.add.length) + ef6.add.length) + ef8.add.length) + ef14.add.length), 0, ef15.rd, [], []⟩] = true ∧ XvStore P 25 (M (Eff.hp ef14 (((S.nx + ef0.add.length) + ef6.add.length) + ef8.add.length) (Eff.hp ef8 ((S.nx + ef0.add.length) + ef6.add.length) (Eff.hp ef6 (S.nx + ef0.add.length) (Eff.hp ef0 S.nx S.hp)))) ((((S.nx + ef0.add.length) + ef6.add.length) + ef8.add.length) + ef14.add.length)) (S.get 6) r15 (fun r16 ef16 => K ⟨[(6, S.get 6)], (Eff.hp ef16 ((((S.nx + ef0.add.length) + ef6.add.length) + ef8.add.length) + ef14.add.length) (Eff.hp ef14 (((S.nx + ef0.add.length) + ef6.add.length) + ef8.add.length) (Eff.hp ef8 ((S.nx + ef0.add.length) + ef6.add.length) (Eff.hp ef6 (S.nx + ef0.add.length) (Eff.hp ef0 S.nx S.hp))))), (((((S.nx + ef0.add.length) + ef6.add.length) + ef8.add.length) + ef14.add.length) + ef16.add.length), S.gh⟩)))))))))))))))) fun K hK => ?_
  repeat' (first | (refine hK _ ?_; clear hK K) | (refine (?_ : trOk _ _ _ = true); kernel_rfl) | ((first | refine xG_intro (fun hg => ?_) (fun hg => ?_) | refine fun (hg : (_ : Prop)) => ?_) <;> ((try simp only [BQ] at hg); try (exfalso; omega))) | refine And.intro ?_ ?_ | exact cl | exact one_encP _ | refine one_take ?_ _ | refine one_drop ?_ _ | (refine st ?_; try simp only [encC, pairs]) | simp only [encC, pairs])
  all_goals
  refine Tri.ret ?_
  show ResR _ _ _ _ _
  have e1 : (min (sizes.length : Int) 4).toNat - 0 = min sizes.length 4 := by omega
  have e2 : (min (bars.length : Int) 8).toNat - 0 = min bars.length 8 := by omega
  rw [e1, e2, ← List.map_take, ← List.map_take, take_cut, take_cut, show min (min sizes.length 4) sizes.length = (sizes.take 4).length by rw [List.length_take]; omega, show min (min bars.length 8) bars.length = (bars.take 8).length by rw [List.length_take]; omega]
  refine ResR.cell1 (PV.agg [_, _, _]) rfl ?_ (pure_case (ofC sizes people bars))
  simp [-List.map_map, -List.map_take, sealed, St.obj, lk, encC, ints, pairs, map_sealed_encI, map_sealed_encP, take_map_len, List.take_of_length_le, ofC]
theorem renL_encC (ρ : Nat → Nat) (l : List CaseD) : renL ρ (l.map encC) = l.map encC := renL_pure ρ _ (pureL_encC l)
theorem spoilt_held {c : CaseD} {how by_ : Int} (hG : Good c) (hb : c.bars.length ≤ 1000) : Held (spoiltC c how by_) := by
  have h90 := around_lo (n := by_) (most := 9) (by decide)
  have h91 := around_hi (n := by_) (most := 9) (by decide)
  have h50 := around_lo (n := by_) (most := 5) (by decide)
  have h51 := around_hi (n := by_) (most := 5) (by decide)
  have h40 := around_lo (n := by_) (most := 4) (by decide)
  have h41 := around_hi (n := by_) (most := 4) (by decide)
  have hm := hG.many
  have hlo := hG.lo
  have hhi := hG.hi
  have hk0 : 0 ≤ spK c by_ := around_lo (by omega)
  have hk1 : spK c by_ < max (c.sizes.length : Int) 1 := around_hi (n := by_.tdiv 3) (most := max (c.sizes.length : Int) 1) (by omega)
  have hp : I64 c.people := by unfold I64; omega
  have hs : ∀ x, x ∈ c.sizes → I64 x := fun x hx => by have := hG.size x hx; unfold I64; omega
  have hbr : ∀ p, p ∈ c.bars → I64 p.1 ∧ I64 p.2 := fun p hp => by have := hG.bar p hp; unfold I64; omega
  have hn : I64 (spN by_) := by unfold spN I64; omega
  have hk : I64 (spK c by_) := by unfold I64; omega
  unfold spoiltC
  split
  · exact ⟨show c.sizes.length ≤ 1000000 by omega, show c.bars.length ≤ 1000000 by omega, hn, hs, hbr⟩
  · split
    · refine ⟨show c.sizes.length ≤ 1000000 by omega, by simp; omega, hp, hs, fun p h => ?_⟩
      rcases List.mem_append.1 h with h | h
      · exact hbr p h
      · rw [List.mem_singleton.1 h]; exact ⟨hk, hn⟩
    · split
      · refine ⟨show c.sizes.length ≤ 1000000 by omega, by simp; omega, hp, hs, fun p h => ?_⟩
        rcases List.mem_append.1 h with h | h
        · exact hbr p h
        · rw [List.mem_singleton.1 h]; exact ⟨hn, by unfold I64; simp⟩
      · split
        · refine ⟨by split <;> simp <;> omega, by simpa using (by omega), hp, fun x h => ?_, hbr⟩
          simp only at h
          split at h
          · rcases List.mem_or_eq_of_mem_set h with h | rfl
            · exact hs x h
            · have : ∀ k : Fin 5, -1 ≤ li sz5 k.1 ∧ li sz5 k.1 ≤ 1025 := by decide
              have := this ⟨(around by_ 5).toNat, by omega⟩
              unfold I64; simp only at this; omega
          · exact hs x h
        · split
          · have hrl := runB_len (spK c by_) (runM c (spK c by_))
            have hrm : runM c (spK c by_) ≤ 6 := by unfold runM; split <;> omega
            have hrun : ∀ n p, p ∈ runB (spK c by_) n → p.1 = spK c by_ ∧ 0 ≤ p.2 ∧ p.2 < n := by
              intro n
              induction n with
              | zero => intro p h; cases h
              | succ n ih =>
                intro p h
                rw [runB] at h
                rcases List.mem_append.1 h with h | h
                · have := ih p h; omega
                · rw [List.mem_singleton.1 h]; exact ⟨rfl, by simp only; omega, by simp only; omega⟩
            refine ⟨show c.sizes.length ≤ 1000000 by omega, by simp; omega, hp, hs, fun p h => ?_⟩
            rcases List.mem_append.1 h with h | h
            · exact hbr p h
            · have := hrun _ p h
              unfold I64 at *; omega
          · refine ⟨by simp; omega, by simpa using (by omega), hp, fun x h => ?_, hbr⟩
            rcases List.mem_append.1 h with h | h
            · exact hs x h
            · rw [(List.mem_replicate.1 h).2]; unfold I64; omega
set_option maxHeartbeats 2000000
structure Tame (b : Nat) (x : CertD) : Prop where
  some : x.some.length ≤ 64 + b
  people : x.people.length ≤ 64 + b
  lo : -(100 * (b : Int)) ≤ x.least
  hi : x.least ≤ 4000000 + 100 * (b : Int)
theorem bestI_tame {c : CaseD} (hG : Good c) : ∀ {i : Nat} {y : CertD}, bestI c i = some y → Tame 0 y
  | 0, y, h => by cases h
  | i + 1, y, h => by
    have hz := li_rng (l := c.sizes) (m := 0) (M := 1024) (fun x hx => by have := hG.size x hx; omega) (by omega) i
    have ht : Tame 0 ⟨[(i : Int)], [], li c.sizes i⟩ := ⟨by simp, by simp, by simp only; omega, by simp only; omega⟩
    rcases hb : bestI c i with _ | z
    · rw [bestI_none hb] at h; cases h; exact ht
    · by_cases hl : z.least < li c.sizes i
      · rw [bestI_up hb hl] at h; cases h; exact ht
      · rw [bestI_stay hb hl] at h; cases h; exact bestI_tame hG hb
theorem setX_tame {c : CaseD} (hG : Good c) {l : List Int} (hl : l.length ≤ 6) : Tame 0 (setX c l) := by
  have hm := hG.many
  have h1 := someS_len c l c.sizes.length
  have h2 := counted_rng hG (someS c l c.sizes.length) l (by omega) (by omega)
  exact ⟨by show (someS c l c.sizes.length).length ≤ 64 + 0; omega, by show l.length ≤ 64 + 0; omega, by show _ ≤ countedS _ _ _; omega, by show countedS _ _ _ ≤ _; omega⟩
theorem bestK_tame {c : CaseD} (hG : Good c) {K : List (List Int)} (hK : ∀ l, l ∈ K → l.length ≤ 6) : ∀ {k : Nat} {y : CertD}, bestK c K k = some y → Tame 0 y
  | 0, y, h => bestI_tame hG h
  | k + 1, y, h => by
    have hl : (K.getD k []).length ≤ 6 := by
      by_cases hk : k < K.length
      · exact hK _ (getD_in hk)
      · rw [List.getD_eq_getElem?_getD, List.getElem?_eq_none (by omega)]; simp
    have ht := setX_tame hG hl
    rcases hb : bestK c K k with _ | z
    · rw [bestK_none hb] at h; cases h; exact ht
    · by_cases hl : z.least < (setX c (K.getD k [])).least
      · rw [bestK_up hb hl] at h; cases h; exact ht
      · rw [bestK_stay hb hl] at h; cases h; exact bestK_tame hG hK hb
theorem bestS_tame {c : CaseD} (hG : Good c) : Tame 0 (bestS c) := by
  unfold bestS orC
  rcases hb : bestK c (setsN c.people.toNat) (setsN c.people.toNat).length with _ | y
  · exact ⟨by simp, by simp, by simp, by simp⟩
  · exact bestK_tame hG (fun l hl => (sets_mem (by have := hG.hi; omega) hl).2.1) hb
theorem leqB51 {p : Prop} (h : p := by (refine ⟨4, ?_, ?_, rfl, by simp, rfl, fun _ h _ => absurd h (Nat.not_lt_zero _)⟩ <;> (simp only [List.forall_mem_cons]; repeat' (first | refine And.intro ?_ ?_ | (intro p hp; exact absurd hp List.not_mem_nil) | rfl | exact sp (pure_case _) | exact sp (pure_pairs _) | exact sp (pure_cert _) | exact (sealed_pure _ _ _ (pure_ints _)).trans (ren_ints _ _).symm | exact (sealed_pure _ _ _ (pure_strs _)).trans (ren_strs _ _).symm | exact sp (by assumption) | (intro o ho; cases ho; refine ⟨by decide, ?_⟩; first | (refine LeqS.row rfl ?_ ?_; (next => (first | rfl | (simp only [List.map_append, List.map_cons, List.map_nil, List.append_nil, List.nil_append, List.append_assoc, List.cons_append, encI, encS, ints, strs]; done) | (simp [encI, encS, ints, strs, encP, List.map_set, encC]; done))); (next => (first | rfl | exact pureL_encI _ | exact pureL_encS _ | exact pureL_ints _ | exact pureL_strs _ | exact pureL_encP _ | (simp [pureL_append, pureL_encI, pureL_encS, pureL_ints, pureL_strs, pureL, PV.pure, pure_ints, pure_strs, pure_case, pureL_encP, pure_pairs, pure_cert]; done))); done) | refine ⟨_, rfl, rfl, ?_⟩) | (simp [St.born, St.known, retV, St.get, St.obj, lk, sealed, PV.ren, renL, rmap, AO.ren, ints, strs, encI, encS, map_sealed_encI, map_sealed_encS, map_sealed_ints, map_sealed_strs, map_ren_encI, map_ren_encS, map_ren_ints, map_ren_strs, renL_encI, renL_encS, renL_ints, renL_strs, ren_case, encC, pairs, renL_encP, map_sealed_encP, map_ren_encP, encP, take_map_len, encCert] <;> omega)))); first | done | fail) : p := h
theorem lsrB51 {p : Prop} (h : p := by (first | rfl | (simp [St.born, St.known, retV, St.get, St.obj, lk, sealed, PV.ren, renL, rmap, AO.ren, ints, strs, encI, encS, map_sealed_encI, map_sealed_encS, map_sealed_ints, map_sealed_strs, map_ren_encI, map_ren_encS, map_ren_ints, map_ren_strs, renL_encI, renL_encS, renL_ints, renL_strs, ren_case, encC, pairs, renL_encP, map_sealed_encP, map_ren_encP, encP, take_map_len, encCert]; done)); first | done | fail) : p := h
theorem lpvB51 {p : Prop} (h : p := by (first | rfl | (simp [pure_ints, pure_strs, PV.pure, pureL, pureL_encI, pureL_encS, pureL_ints, pureL_strs, pure_case, pureL_encP, pure_pairs, pure_cert]; done)); first | done | fail) : p := h
theorem SamePairs_self (l : List (Int × Int)) (hl : l.length ≤ 1000000) : Pure Try.prog 23 [pairs l, pairs l] (.atom (.bool true)) [] := by
  refine Pure.intro (ts := [4]) Try.func23 (by kernel_rfl) rfl rfl rfl (Nat.le_of_ble_eq_true rfl) ?_ ?_
  · simp [pure_pairs, PV.pure, pureL]
  refine sY [0, 1] (fun P S K => K ⟨[(0, S.get 0), (1, S.get 1)], S.hp, S.nx, S.gh⟩) ?_
  all_goals
  refine Tri.seq ?_
  refine sZ [0, 1, 10] (fun P S K => XvLen P 23 (S.get 0) (fun r1 _ => XvLen P 23 (S.get 1) (fun r3 _ => XvBinOV P .neq 3 (.tmp 9) r1 r3 (fun r4 _ => K ⟨[(0, S.get 0), (1, S.get 1), (10, r4)], S.hp, S.nx, S.gh⟩)))) fun K hK => ?_
  repeat' (first | (refine hK _ ?_; clear hK K) | refine And.intro ?_ ?_ | exact cl | (refine st ?_; try simp only [pairs, dec_self]) | simp only [pairs, dec_self])
  all_goals
  refine Tri.cond rfl (fun h10 => ?_) (fun h10 => ?_)
  ·try (cases h10; done)
   all_goals (try simp only [CQ] at h10)
   all_goals
   refine sY [4] (fun P S K => K ⟨[(4, (.atom (.bool false)))], S.hp, S.nx, S.gh⟩) ?_
   all_goals
   refine Tri.ret ?_
   show ResOk _ _ _ _
   exact ResOk.val lsrB51 lpvB51
  ·try (cases h10; done)
   all_goals (try simp only [CQ] at h10)
   all_goals
   refine Tri.skip ?_
   refine Tri.seq ?_
   refine sY [0, 1, 5] (fun P S K => K ⟨[(0, S.get 0), (1, S.get 1), (5, (.atom (.int .i64 0)))], S.hp, S.nx, S.gh⟩) ?_
   all_goals
   refine Tri.block ?_
   refine Tri.loop (α := (k : Nat) ×' (k ≤ l.length)) (fun z => (fun (k : Nat) => (⟨[(0, pairs l), (1, pairs l), (5, encI k)], [], 0, []⟩ : St)) z.1) (fun z => (fun (k : Nat) => l.length - k) z.1) ⟨0, Nat.zero_le _⟩ [] ?_ ?_
   ·exact leqB51
   ·rintro ⟨k, hk⟩
    refine Tri.seq ?_
    refine sZ [0, 1, 5, 14] (fun P S K => XvLen P 23 (S.get 0) (fun r2 _ => XvBinOV P .lss 3 (.tmp 13) (S.get 5) r2 (fun r3 _ => K ⟨[(0, S.get 0), (1, S.get 1), (5, S.get 5), (14, r3)], S.hp, S.nx, S.gh⟩))) fun K hK => ?_
    repeat' (first | (refine hK _ ?_; clear hK K) | refine And.intro ?_ ?_ | exact cl | (refine st ?_; try simp only [pairs, dec_self]) | simp only [pairs, dec_self])
    all_goals
    refine Tri.cond rfl (fun h14 => ?_) (fun h14 => ?_)
    ·try (cases h14; done)
     all_goals (try simp only [CQ] at h14)
     all_goals
     refine Tri.skip ?_
     refine Tri.seq ?_
     refine Tri.block ?_
     have hkl : k < l.length := by omega
     refine sD 9 [0, 1, 5, 25] (fun P GD S K => XvIndexAddr P 23 (S.get 0) (S.get 5) (fun r2 ef2 => XvLoad P 67 (M S.hp S.nx) r2 (fun r3 ef3 => XvIndexAddr P 23 (S.get 1) (S.get 5) (fun r6 ef6 => XvLoad P 67 (M S.hp S.nx) r6 (fun r7 ef7 => XvBinOV P .neq 67 (.tmp 24) r3 r7 (fun r8 ef8 => (trOk S.nx GD [⟨S.nx, 0, [], [], []⟩, ⟨S.nx, 0, [], [], []⟩, ⟨S.nx, 0, ef2.rd, [], []⟩, ⟨S.nx, 0, ef3.rd, [], []⟩, ⟨S.nx, 0, [], [], []⟩, ⟨S.nx, 0, [], [], []⟩, ⟨S.nx, 0, ef6.rd, [], []⟩, ⟨S.nx, 0, ef7.rd, [], []⟩, ⟨S.nx, 0, ef8.rd, [], []⟩] = true ∧ K ⟨[(0, S.get 0), (1, S.get 1), (5, S.get 5), (25, r8)], S.hp, S.nx, S.gh⟩))))))) fun K hK => ?_
     repeat' (first | (refine hK _ ?_; clear hK K) | (refine (?_ : trOk _ _ _ = true); kernel_rfl) | refine And.intro ?_ ?_ | exact cl | (refine st ?_; try simp only [pairs, dec_self, getD_encP hkl, encP, intsOf]) | simp only [pairs, dec_self, getD_encP hkl, encP, intsOf])
     all_goals
     refine Tri.cond rfl (fun h25 => ?_) (fun h25 => ?_)
     ·try (cases h25; done)
      all_goals (try simp only [CQ] at h25)
      all_goals
      refine sY [4] (fun P S K => K ⟨[(4, (.atom (.bool false)))], S.hp, S.nx, S.gh⟩) ?_
      all_goals
      refine Tri.ret ?_
      show ResOk _ _ _ _
      exact ResOk.val lsrB51 lpvB51
     ·try (cases h25; done)
      all_goals (try simp only [CQ] at h25)
      all_goals
      refine Tri.skip ?_
      refine rY [0, 1, 5] (fun P S K => XvBinOV P .add 3 (.const (.int .i64 1)) (S.get 5) (.atom (.int .i64 1)) (fun r1 _ => K ⟨[(0, S.get 0), (1, S.get 1), (5, r1)], S.hp, S.nx, S.gh⟩)) ?_
      all_goals try simp (disch := omega) only [wrap_id, wrap8_id]
      all_goals
      refine ⟨⟨k + 1, by omega⟩, [], by dsimp only; omega, ?_⟩
      exact leqB51
    ·try (cases h14; done)
     all_goals (try simp only [CQ] at h14)
     all_goals
     refine Tri.exit ?_
     refine sY [4] (fun P S K => K ⟨[(4, (.atom (.bool true)))], S.hp, S.nx, S.gh⟩) ?_
     all_goals
     refine Tri.ret ?_
     show ResOk _ _ _ _
     exact ResOk.val lsrB51 lpvB51
theorem SameCert_self (x : CertD) (h1 : x.some.length ≤ 1000000) (h2 : x.people.length ≤ 1000000) : Pure Try.prog 24 [encCert x, encCert x] (.atom (.bool true)) [] := by
  have c1 := SameInts_pure x.some x.some (by omega) (by omega)
  have c2 := SameInts_pure x.people x.people (by omega) (by omega)
  rw [show decide (x.some = x.some) = true by simp] at c1
  rw [show decide (x.people = x.people) = true by simp] at c2
  refine Pure.intro (ts := [4]) Try.func24 (by kernel_rfl) rfl rfl rfl (Nat.le_of_ble_eq_true rfl) ?_ ?_
  · simp [pure_cert, PV.pure, pureL]
  refine sZ [2, 3] (fun P S K => XvBox S.nx (S.get 0) (fun r0 ef0 => XvBox (S.nx + ef0.add.length) (S.get 1) (fun r1 ef1 => K ⟨[(2, r0), (3, r1)], (Eff.hp ef1 (S.nx + ef0.add.length) (Eff.hp ef0 S.nx S.hp)), ((S.nx + ef0.add.length) + ef1.add.length), S.gh⟩))) fun K hK => ?_
  repeat' (first | (refine hK _ ?_; clear hK K) | refine And.intro ?_ ?_ | exact cl | (refine st ?_; try simp only [encCert, dec_self]) | simp only [encCert, dec_self])
  all_goals
  refine sZ [4] (fun P S K => XvFieldAddr P 31 2 (S.get 2) (fun r0 _ => XvLoad P 3 (M S.hp S.nx) r0 (fun r1 _ => XvFieldAddr P 31 2 (S.get 3) (fun r2 _ => XvLoad P 3 (M S.hp S.nx) r2 (fun r3 _ => XvBinOV P .eql 3 (.tmp 8) r1 r3 (fun r4 _ => Xgq r4 true (fun k => XvFieldAddr P 31 0 (S.get 2) (fun r6 _ => k r6)) (fun g6 r6 => Xgq g6 true (fun k => XvLoad P 22 (M S.hp S.nx) r6 (fun r7 _ => k r7)) (fun g7 r7 => Xgq g7 true (fun k => XvFieldAddr P 31 0 (S.get 3) (fun r8 _ => k r8)) (fun g8 r8 => Xgq g8 true (fun k => XvLoad P 22 (M S.hp S.nx) r8 (fun r9 _ => k r9)) (fun g9 r9 => Xge g9 true (fun k => XvFnIV P (M S.hp S.nx) (.fn 20 []) [r7, r9] k) (fun g10 r10 ef10 => XvPick g10 r10 (.atom (.bool false)) (fun r11 _ => Xgq r11 true (fun k => XvFieldAddr P 31 1 (S.get 2) (fun r13 _ => k r13)) (fun g13 r13 => Xgq g13 true (fun k => XvLoad P 22 (M (Eff.hp ef10 S.nx S.hp) (S.nx + ef10.add.length)) r13 (fun r14 _ => k r14)) (fun g14 r14 => Xgq g14 true (fun k => XvFieldAddr P 31 1 (S.get 3) (fun r15 _ => k r15)) (fun g15 r15 => Xgq g15 true (fun k => XvLoad P 22 (M (Eff.hp ef10 S.nx S.hp) (S.nx + ef10.add.length)) r15 (fun r16 _ => k r16)) (fun g16 r16 => Xge g16 true (fun k => XvFnIV P (M (Eff.hp ef10 S.nx S.hp) (S.nx + ef10.add.length)) (.fn 20 []) [r14, r16] k) (fun g17 r17 ef17 => XvPick g17 r17 (.atom (.bool false)) (fun r18 _ => K ⟨[(4, r18)], (Eff.hp ef17 (S.nx + ef10.add.length) (Eff.hp ef10 S.nx S.hp)), ((S.nx + ef10.add.length) + ef17.add.length), S.gh⟩)))))))))))))))))) fun K hK => ?_
  repeat' (first | (refine hK _ ?_; clear hK K) | ((first | refine xG_intro (fun hg => ?_) (fun hg => ?_) | refine fun (hg : (_ : Prop)) => ?_) <;> ((try simp only [BQ, List.length_map] at hg); try (cases hg; done); try (exfalso; omega))) | refine And.intro ?_ ?_ | exact cl | refine one_take ?_ _ | refine one_drop ?_ _ | refine .inl ⟨_, _, c1, ?_⟩ | refine .inl ⟨_, _, c2, ?_⟩ | (refine st ?_; try simp only [encCert, dec_self]) | simp only [encCert, dec_self])
  all_goals
  refine Tri.ret ?_
  show ResOk _ _ _ _
  exact ResOk.val lsrB51 lpvB51
theorem model_pure (x : CertD) : Pure Try.prog 25 [encCert x] (encCert x) [] := by
  refine Pure.introR (rv := [.cell 2 31]) Try.func25 (by kernel_rfl) rfl rfl rfl (Nat.le_of_ble_eq_true rfl) ?_ ?_
  · simp [pure_cert, PV.pure, pureL]
  refine sZ [1, 2] (fun P S K => XvBox S.nx (S.get 0) (fun r0 ef0 => XvAlloc P 31 (S.nx + ef0.add.length) (fun r1 ef1 => K ⟨[(1, r0), (2, r1)], (Eff.hp ef1 (S.nx + ef0.add.length) (Eff.hp ef0 S.nx S.hp)), ((S.nx + ef0.add.length) + ef1.add.length), S.gh⟩))) fun K hK => ?_
  repeat' (first | (refine hK _ ?_; clear hK K) | refine And.intro ?_ ?_ | exact cl | (refine st ?_; try simp only [encCert]) | simp only [encCert])
  all_goals
  refine sZ [2] (fun P S K => XvFieldAddr P 47 0 (S.get 1) (fun r0 _ => XvLoad P 22 (M S.hp S.nx) r0 (fun r1 _ => XvFieldAddr P 47 1 (S.get 1) (fun r2 _ => XvLoad P 22 (M S.hp S.nx) r2 (fun r3 _ => XvFieldAddr P 47 2 (S.get 1) (fun r4 _ => XvLoad P 3 (M S.hp S.nx) r4 (fun r5 _ => XvBuild P 31 [(0, r1), (1, r3), (2, r5)] (fun r6 _ => XvStore P 31 (M S.hp S.nx) (S.get 2) r6 (fun r7 ef7 => K ⟨[(2, S.get 2)], (Eff.hp ef7 S.nx S.hp), (S.nx + ef7.add.length), S.gh⟩))))))))) fun K hK => ?_
  repeat' (first | (refine hK _ ?_; clear hK K) | refine And.intro ?_ ?_ | exact cl | (refine st ?_; try simp only [encCert]) | simp only [encCert])
  all_goals
  refine Tri.ret ?_
  show ResR _ _ _ _ _
  refine ResR.cell1 (encCert x) rfl ?_ (pure_cert _)
  exact sealed_pure _ _ _ (pure_cert _)
def Fit (c : CaseD) : Prop := Held c ∧ (validC c = 0 → Tail c)
theorem tail_short {c : CaseD} (h : c.sizes.length ≤ 20) : Tail c := fun j h1 h2 => by omega
theorem made_short (l : List Int) : (madeC l).sizes.length ≤ 12 := by rw [made_sizes]; have := madeM_rng l; omega
theorem made_fit (l : List Int) : Fit (madeC l) := ⟨made_held l, fun _ => tail_short (by have := made_short l; omega)⟩
theorem of_fit {sizes : List Int} {people : Int} {bars : List (Int × Int)} (h1 : Fits sizes) (h2 : I64 people) (h3 : FitsP bars) : Fit (ofC sizes people bars) :=
  ⟨of_held h1 h2 h3, fun _ => tail_short (by show (sizes.take 4).length ≤ 20; rw [List.length_take]; omega)⟩
theorem li_ones (a : List Int) (n : Nat) {j : Nat} (h1 : a.length ≤ j) (h2 : j < (a ++ List.replicate n 1).length) : li (a ++ List.replicate n 1) j = 1 := by
  unfold li
  rw [List.getD_eq_getElem?_getD, List.getElem?_append_right h1, List.getElem?_replicate, if_pos (by simp at h2; omega)]
  rfl
theorem spoilt_fit {c : CaseD} {how by_ : Int} (hG : Good c) (hb : c.bars.length ≤ 1000) (hs : c.sizes.length ≤ 12) : Fit (spoiltC c how by_) := by
  refine ⟨spoilt_held hG hb, fun hv => ?_⟩
  have hg := (valid_good hv).size
  revert hg
  clear hv
  unfold spoiltC
  split
  · exact fun _ => tail_short (by show c.sizes.length ≤ 20; omega)
  · split
    · exact fun _ => tail_short (by show c.sizes.length ≤ 20; omega)
    · split
      · exact fun _ => tail_short (by show c.sizes.length ≤ 20; omega)
      · split
        · refine fun _ => tail_short ?_
          show (if 0 < c.sizes.length then c.sizes.set (spK c by_).toNat (li sz5 (around by_ 5).toNat) else c.sizes).length ≤ 20
          split
          · rw [List.length_set]; omega
          · omega
        · split
          · exact fun _ => tail_short (by show c.sizes.length ≤ 20; omega)
          · intro hg j h1 h2 i hi
            try simp only at hg
            try simp only at h2
            try simp only at hi
            try simp only
            rw [li_ones _ _ (by omega) h2]
            exact (hg _ (li_mem hi)).1
theorem fit2 {a b : CaseD} (h1 : Fit a) (h2 : Fit b) : ∀ x, x ∈ [a, b] → Fit x := fun x hx => by
  rcases List.mem_cons.1 hx with rfl | hx
  · exact h1
  · rw [List.mem_singleton.1 hx]; exact h2
theorem fit3 {a b c : CaseD} (h1 : Fit a) (h2 : Fit b) (h3 : Fit c) : ∀ x, x ∈ [a, b, c] → Fit x := fun x hx => by
  rcases List.mem_cons.1 hx with rfl | hx
  · exact h1
  · exact fit2 h2 h3 x hx
theorem findC_len (c : CaseD) : (findC c).some.length ≤ 1000 ∧ (findC c).people.length ≤ 1000 := by
  by_cases hv : validC c = 0
  · have := bestS_tame (valid_good hv)
    have e : findC c = bestS c := if_neg (by omega)
    rw [e]
    exact ⟨by have := this.some; omega, by have := this.people; omega⟩
  · have e : findC c = ⟨[], [], 0⟩ := if_pos hv
    rw [e]; exact ⟨by simp, by simp⟩
theorem leqB52 {p : Prop} (h : p := by (refine ⟨4, ?_, ?_, rfl, by simp, rfl, fun _ h _ => absurd h (Nat.not_lt_zero _)⟩ <;> (simp only [List.forall_mem_cons]; repeat' (first | refine And.intro ?_ ?_ | (intro p hp; exact absurd hp List.not_mem_nil) | rfl | exact sp (pure_case _) | exact sp (pure_pairs _) | exact sp (pure_cert _) | exact (sealed_pure _ _ _ (pure_ints _)).trans (ren_ints _ _).symm | exact (sealed_pure _ _ _ (pure_strs _)).trans (ren_strs _ _).symm | exact sp (by assumption) | (intro o ho; cases ho; refine ⟨by decide, ?_⟩; first | (refine LeqS.row rfl ?_ ?_; (next => (first | rfl | (simp only [List.map_append, List.map_cons, List.map_nil, List.append_nil, List.nil_append, List.append_assoc, List.cons_append, encI, encS, ints, strs]; done) | (simp [encI, encS, ints, strs, encP, List.map_set, encC, encCert]; done))); (next => (first | rfl | exact pureL_encI _ | exact pureL_encS _ | exact pureL_ints _ | exact pureL_strs _ | exact pureL_encP _ | exact pureL_encC _ | (simp [pureL_append, pureL_encI, pureL_encS, pureL_ints, pureL_strs, pureL, PV.pure, pure_ints, pure_strs, pure_case, pureL_encP, pure_pairs, pure_cert, pureL_encC]; done))); done) | refine ⟨_, rfl, rfl, ?_⟩) | (simp [St.born, St.known, retV, St.get, St.obj, lk, sealed, PV.ren, renL, rmap, AO.ren, ints, strs, encI, encS, map_sealed_encI, map_sealed_encS, map_sealed_ints, map_sealed_strs, map_ren_encI, map_ren_encS, map_ren_ints, map_ren_strs, renL_encI, renL_encS, renL_ints, renL_strs, ren_case, encC, pairs, renL_encP, map_sealed_encP, map_ren_encP, encP, take_map_len, encCert, renL_encC] <;> omega)))); first | done | fail) : p := h
theorem lsrB52 {p : Prop} (h : p := by (first | rfl | (simp [St.born, St.known, retV, St.get, St.obj, lk, sealed, PV.ren, renL, rmap, AO.ren, ints, strs, encI, encS, map_sealed_encI, map_sealed_encS, map_sealed_ints, map_sealed_strs, map_ren_encI, map_ren_encS, map_ren_ints, map_ren_strs, renL_encI, renL_encS, renL_ints, renL_strs, ren_case, encC, pairs, renL_encP, map_sealed_encP, map_ren_encP, encP, take_map_len, encCert, renL_encC]; done)); first | done | fail) : p := h
theorem lpvB52 {p : Prop} (h : p := by (first | rfl | (simp [pure_ints, pure_strs, PV.pure, pureL, pureL_encI, pureL_encS, pureL_ints, pureL_strs, pure_case, pureL_encP, pure_pairs, pure_cert, pureL_encC]; done)); first | done | fail) : p := h
theorem finds_pure (l : List Int) (how by_ : Int) (sizes : List Int) (people : Int) (bars : List (Int × Int)) (hl : Fits l) (hh : I64 how) (hb : I64 by_) (hs : Fits sizes) (hp : I64 people) (hbr : FitsP bars) (hlv : Pure Try.prog 21 [] (.atom (.bool true)) []) :
    Pure Try.prog 4 [ints l, encI how, encI by_, ints sizes, encI people, pairs bars] (.atom (.bool true)) [] := by
  have hmb := made_bars l
  have hms := made_short l
  have f1 := made_fit l
  have f2 := of_fit hs hp hbr
  have f3 := spoilt_fit (how := how) (by_ := by_) (made_good l) (by omega) hms
  refine Pure.intro (ts := [12]) Try.func4 (by kernel_rfl) rfl rfl rfl (Nat.le_of_ble_eq_true rfl) ?_ ?_
  · simp [pure_ints, pure_pairs, encI, PV.pure, pureL]
  refine sZ [0, 1, 2, 3, 4, 5] (fun P S K => K ⟨[(0, S.get 0), (1, S.get 1), (2, S.get 2), (3, S.get 3), (4, S.get 4), (5, S.get 5)], S.hp, S.nx, S.gh⟩) fun K hK => ?_
  repeat' (first | (refine hK _ ?_; clear hK K) | refine And.intro ?_ ?_ | exact cl | exact one_encP _ | (refine st ?_; try simp only [encC, pairs, encCert, dec_self, renL_encP]) | simp only [encC, pairs, encCert, dec_self, renL_encP])
  all_goals
  refine sZ [1, 2, 3, 4, 5, 13] (fun P S K => XvFnIV P (M S.hp S.nx) (.fn 10 []) [(S.get 0)] (fun r1 ef1 => XvAlloc P 25 (S.nx + ef1.add.length) (fun r2 ef2 => XvStore P 25 (M (Eff.hp ef2 (S.nx + ef1.add.length) (Eff.hp ef1 S.nx S.hp)) ((S.nx + ef1.add.length) + ef2.add.length)) r2 r1 (fun r3 ef3 => K ⟨[(1, S.get 1), (2, S.get 2), (3, S.get 3), (4, S.get 4), (5, S.get 5), (13, r2)], (Eff.hp ef3 ((S.nx + ef1.add.length) + ef2.add.length) (Eff.hp ef2 (S.nx + ef1.add.length) (Eff.hp ef1 S.nx S.hp))), (((S.nx + ef1.add.length) + ef2.add.length) + ef3.add.length), S.gh⟩)))) fun K hK => ?_
  repeat' (first | (refine hK _ ?_; clear hK K) | refine And.intro ?_ ?_ | exact cl | exact one_encP _ | refine .inl ⟨_, _, Made_pure l hl, ?_⟩ | refine .inl ⟨_, _, hlv, ?_⟩ | (refine st ?_; try simp only [encC, pairs, encCert, dec_self, renL_encP]) | simp only [encC, pairs, encCert, dec_self, renL_encP])
  all_goals
  refine sD 7 [1, 2, 13, 14] (fun P GD S K => XvLoad P 25 (M S.hp S.nx) (S.get 13) (fun r0 ef0 => XvFnV P (M S.hp S.nx) (.fn 12 []) [(S.get 3), (S.get 4), (S.get 5)] (fun r4 ef4 => XvBuildS P 29 2 (S.nx + ef4.add.length) [(0, r0), (1, r4)] (fun r5 ef5 => (trOk S.nx GD [⟨S.nx, 0, ef0.rd, [], []⟩, ⟨S.nx, 0, [], [], []⟩, ⟨S.nx, 0, [], [], []⟩, ⟨S.nx, 0, [], [], []⟩, (Eff.tr ef4 S.nx), (Eff.tr ef5 (S.nx + ef4.add.length)), ⟨((S.nx + ef4.add.length) + ef5.add.length), 0, [], [], []⟩] = true ∧ K ⟨[(1, S.get 1), (2, S.get 2), (13, S.get 13), (14, r5)], (Eff.hp ef5 (S.nx + ef4.add.length) (Eff.hp ef4 S.nx S.hp)), ((S.nx + ef4.add.length) + ef5.add.length), S.gh⟩))))) fun K hK => ?_
  repeat' (first | (refine hK _ ?_; clear hK K) | (refine (?_ : trOk _ _ _ = true); kernel_rfl) | refine And.intro ?_ ?_ | exact cl | exact one_encP _ | refine one_take ?_ _ | refine one_drop ?_ _ | refine .inl ⟨_, _, of_pure sizes people bars hs hbr, ?_⟩ | refine ⟨_, _, of_pure sizes people bars hs hbr, ?_⟩ | refine .inl ⟨_, _, hlv, ?_⟩ | refine ⟨_, _, hlv, ?_⟩ | (refine st ?_; try simp only [encC, pairs, encCert, dec_self, renL_encP]) | simp only [encC, pairs, encCert, dec_self, renL_encP])
  all_goals
  refine sZ [14, 15] (fun P S K => XvLoad P 25 (M S.hp S.nx) (S.get 13) (fun r0 _ => XvFnIV P (M S.hp S.nx) (.fn 11 []) [r0, (S.get 1), (S.get 2)] (fun r3 ef3 => XvAlloc P 25 (S.nx + ef3.add.length) (fun r4 ef4 => XvStore P 25 (M (Eff.hp ef4 (S.nx + ef3.add.length) (Eff.hp ef3 S.nx S.hp)) ((S.nx + ef3.add.length) + ef4.add.length)) r4 r3 (fun r5 ef5 => K ⟨[(14, S.get 14), (15, r4)], (Eff.hp ef5 ((S.nx + ef3.add.length) + ef4.add.length) (Eff.hp ef4 (S.nx + ef3.add.length) (Eff.hp ef3 S.nx S.hp))), (((S.nx + ef3.add.length) + ef4.add.length) + ef5.add.length), S.gh⟩))))) fun K hK => ?_
  repeat' (first | (refine hK _ ?_; clear hK K) | refine And.intro ?_ ?_ | exact cl | exact one_encP _ | refine one_take ?_ _ | refine one_drop ?_ _ | refine .inl ⟨_, _, Spoilt_pure (madeC l) how by_ (made_good l) (by omega) hh hb, ?_⟩ | refine .inl ⟨_, _, hlv, ?_⟩ | (refine st ?_; try simp only [encC, pairs, encCert, dec_self, renL_encP]) | simp only [encC, pairs, encCert, dec_self, renL_encP])
  all_goals
  refine Tri.cut (α := (cs : List CaseD) ×' (cs.length ≤ 3 ∧ ∀ c, c ∈ cs → Fit c)) (fun ⟨cs, hcs, hfit⟩ => ⟨[(14, .sl 3 (cs.map encC))], [], 0, []⟩) ?_ ?_
  ·skip
   refine sZ [14, 15, 51] (fun P S K => XvFieldAddr P 25 0 (S.get 15) (fun r0 _ => XvLoad P 22 (M S.hp S.nx) r0 (fun r1 _ => XvLen P 22 r1 (fun r2 _ => XvBinOV P .gtr 3 (.const (.int .i64 6)) r2 (.atom (.int .i64 6)) (fun r3 _ => Xgq r3 false (fun k => XvFieldAddr P 25 1 (S.get 15) (fun r5 _ => k r5)) (fun g5 r5 => Xgq g5 false (fun k => XvLoad P 3 (M S.hp S.nx) r5 (fun r6 _ => k r6)) (fun g6 r6 => Xgq g6 false (fun k => XvBinOV P .lss 3 (.const (.int .i64 5)) r6 (.atom (.int .i64 5)) (fun r7 _ => k r7)) (fun g7 r7 => XvPick g7 (.atom (.bool true)) r7 (fun r8 _ => Xgq r8 false (fun k => XvFieldAddr P 25 0 (S.get 15) (fun r10 _ => k r10)) (fun g10 r10 => Xgq g10 false (fun k => XvLoad P 22 (M S.hp S.nx) r10 (fun r11 _ => k r11)) (fun g11 r11 => Xgq g11 false (fun k => XvLen P 22 r11 (fun r12 _ => k r12)) (fun g12 r12 => Xgq g12 false (fun k => XvBinOV P .lss 3 (.const (.int .i64 5)) r12 (.atom (.int .i64 5)) (fun r13 _ => k r13)) (fun g13 r13 => XvPick g13 (.atom (.bool true)) r13 (fun r14 _ => K ⟨[(14, S.get 14), (15, S.get 15), (51, r14)], S.hp, S.nx, S.gh⟩)))))))))))))) fun K hK => ?_
   repeat' (first | (refine hK _ ?_; clear hK K) | ((first | refine xG_intro (fun hg => ?_) (fun hg => ?_) | refine fun (hg : (_ : Prop)) => ?_) <;> ((try simp only [BQ, List.length_map] at hg); try (cases hg; done); try (exfalso; omega))) | refine And.intro ?_ ?_ | exact cl | exact one_encP _ | refine one_take ?_ _ | refine one_drop ?_ _ | (refine st ?_; try simp only [encC, pairs, encCert, dec_self, renL_encP]) | simp only [encC, pairs, encCert, dec_self, renL_encP])
   all_goals
   refine Tri.cond rfl (fun h51 => ?_) (fun h51 => ?_)
   ·try (cases h51; done)
    all_goals (try simp only [CQ] at h51)
    all_goals
    refine rZ [14] (fun P S K => XvLoad P 25 (M S.hp S.nx) (S.get 15) (fun r1 _ => XvBuildS P 29 1 S.nx [(0, r1)] (fun r2 ef2 => (29 = 29 ∧ XvAppend P 29 (M (Eff.hp ef2 S.nx S.hp) (S.nx + ef2.add.length)) (S.get 14) r2 (fun r3 ef3 => K ⟨[(14, r3)], (Eff.hp ef3 (S.nx + ef2.add.length) (Eff.hp ef2 S.nx S.hp)), ((S.nx + ef2.add.length) + ef3.add.length), S.gh⟩))))) fun K hK => ?_
    repeat' (first | (refine hK _ ?_; clear hK K) | ((first | refine xG_intro (fun hg => ?_) (fun hg => ?_) | refine fun (hg : (_ : Prop)) => ?_) <;> ((try simp only [BQ, List.length_map] at hg); try (cases hg; done); try (exfalso; omega))) | refine And.intro ?_ ?_ | exact cl | exact one_encP _ | refine one_take ?_ _ | refine one_drop ?_ _ | (refine st ?_; try simp only [encC, pairs, encCert, dec_self, renL_encP]) | simp only [encC, pairs, encCert, dec_self, renL_encP])
    have hR5 : True := trivial
    all_goals
    refine ⟨(by first | (have := hR5; exact ⟨[madeC l, ofC sizes people bars, spoiltC (madeC l) how by_], by simp, fit3 f1 f2 f3⟩) | exact ⟨[madeC l, ofC sizes people bars], by simp, fit2 f1 f2⟩), [], ?_⟩
    exact leqB52
   ·try (cases h51; done)
    all_goals (try simp only [CQ] at h51)
    all_goals
    refine Tri.skip ?_
    refine ⟨(by first | (have := hR5; exact ⟨[madeC l, ofC sizes people bars, spoiltC (madeC l) how by_], by simp, fit3 f1 f2 f3⟩) | exact ⟨[madeC l, ofC sizes people bars], by simp, fit2 f1 f2⟩), [], ?_⟩
    exact leqB52
  ·rintro ⟨cs, hcs, hfit⟩
   refine Tri.seq ?_
   refine sZ [14, 16] (fun P S K => K ⟨[(14, S.get 14), (16, (.atom (.int .i64 0)))], S.hp, S.nx, S.gh⟩) fun K hK => ?_
   repeat' (first | (refine hK _ ?_; clear hK K) | refine And.intro ?_ ?_ | exact cl | exact one_encP _ | (refine st ?_; try simp only [encC, pairs, encCert, dec_self, renL_encP]) | simp only [encC, pairs, encCert, dec_self, renL_encP])
   all_goals
   refine Tri.block ?_
   refine Tri.loop (α := (i : Nat) ×' (i ≤ cs.length)) (fun z => (fun (i : Nat) => (⟨[(14, .sl 3 (cs.map encC)), (16, encI i)], [], 0, []⟩ : St)) z.1) (fun z => (fun (i : Nat) => 3 - i) z.1) ⟨0, Nat.zero_le _⟩ [] ?_ ?_
   ·exact leqB52
   ·rintro ⟨i, hi⟩
    refine Tri.seq ?_
    refine sZ [14, 16, 59] (fun P S K => XvLen P 29 (S.get 14) (fun r2 _ => XvBinOV P .lss 3 (.tmp 58) (S.get 16) r2 (fun r3 _ => K ⟨[(14, S.get 14), (16, S.get 16), (59, r3)], S.hp, S.nx, S.gh⟩))) fun K hK => ?_
    repeat' (first | (refine hK _ ?_; clear hK K) | refine And.intro ?_ ?_ | exact cl | exact one_encP _ | (refine st ?_; try simp only [encC, pairs, encCert, dec_self, renL_encP]) | simp only [encC, pairs, encCert, dec_self, renL_encP])
    all_goals
    refine Tri.cond rfl (fun h59 => ?_) (fun h59 => ?_)
    ·try (cases h59; done)
     all_goals (try simp only [CQ] at h59)
     all_goals
     refine Tri.skip ?_
     refine Tri.seq ?_
     refine Tri.block ?_
     have hil : i < cs.length := by omega
     have hd := hfit _ (getD_in (d := ⟨[], 0, []⟩) hil)
     have hge := getD_encC hil
     generalize cs.getD i ⟨[], 0, []⟩ = d at hd hge
     have hfl := findP_len d
     have hdl := hd.1.sizes
     have hcl := findC_len d
     refine sZ [14, 16, 17, 18, 19, 20] (fun P S K => XvIndexAddr P 29 (S.get 14) (S.get 16) (fun r2 _ => XvLoad P 25 (M S.hp S.nx) r2 (fun r3 _ => XvFnIV P (M S.hp S.nx) (.fn 16 []) [r3] (fun r4 ef4 => XvFnIV P (M (Eff.hp ef4 S.nx S.hp) (S.nx + ef4.add.length)) (.fn 22 []) [r4] (fun r5 ef5 => XvExtract r5 0 (fun r7 _ => XvExtract r5 1 (fun r8 _ => XvExtract r5 2 (fun r9 _ => XvExtract r5 3 (fun r10 _ => XvAlloc P 47 ((S.nx + ef4.add.length) + ef5.add.length) (fun r11 ef11 => XvStore P 47 (M (Eff.hp ef11 ((S.nx + ef4.add.length) + ef5.add.length) (Eff.hp ef5 (S.nx + ef4.add.length) (Eff.hp ef4 S.nx S.hp))) (((S.nx + ef4.add.length) + ef5.add.length) + ef11.add.length)) r11 r9 (fun r14 ef14 => K ⟨[(14, S.get 14), (16, S.get 16), (17, r7), (18, r8), (19, r11), (20, r10)], (Eff.hp ef14 (((S.nx + ef4.add.length) + ef5.add.length) + ef11.add.length) (Eff.hp ef11 ((S.nx + ef4.add.length) + ef5.add.length) (Eff.hp ef5 (S.nx + ef4.add.length) (Eff.hp ef4 S.nx S.hp)))), ((((S.nx + ef4.add.length) + ef5.add.length) + ef11.add.length) + ef14.add.length), S.gh⟩))))))))))) fun K hK => ?_
     repeat' (first | (refine hK _ ?_; clear hK K) | refine And.intro ?_ ?_ | exact cl | exact one_encP _ | refine one_take ?_ _ | refine one_drop ?_ _ | refine .inl ⟨_, _, own_pure d, ?_⟩ | refine .inl ⟨_, _, aFind_pure d hd.1 hd.2, ?_⟩ | refine .inl ⟨_, _, hlv, ?_⟩ | (refine st ?_; try simp only [encC, pairs, encCert, dec_self, renL_encP, hge]) | simp only [encC, pairs, encCert, dec_self, renL_encP, hge])
     all_goals
     refine sZ [14, 16, 17, 18, 19, 20, 21, 22, 23, 24] (fun P S K => XvIndexAddr P 29 (S.get 14) (S.get 16) (fun r2 _ => XvLoad P 25 (M S.hp S.nx) r2 (fun r3 _ => XvFnIV P (M S.hp S.nx) (.fn 13 []) [r3] (fun r4 ef4 => XvExtract r4 0 (fun r6 _ => XvExtract r4 1 (fun r7 _ => XvExtract r4 2 (fun r8 _ => XvExtract r4 3 (fun r9 _ => XvAlloc P 31 (S.nx + ef4.add.length) (fun r10 ef10 => XvStore P 31 (M (Eff.hp ef10 (S.nx + ef4.add.length) (Eff.hp ef4 S.nx S.hp)) ((S.nx + ef4.add.length) + ef10.add.length)) r10 r8 (fun r13 ef13 => K ⟨[(14, S.get 14), (16, S.get 16), (17, S.get 17), (18, S.get 18), (19, S.get 19), (20, S.get 20), (21, r6), (22, r7), (23, r10), (24, r9)], (Eff.hp ef13 ((S.nx + ef4.add.length) + ef10.add.length) (Eff.hp ef10 (S.nx + ef4.add.length) (Eff.hp ef4 S.nx S.hp))), (((S.nx + ef4.add.length) + ef10.add.length) + ef13.add.length), S.gh⟩)))))))))) fun K hK => ?_
     repeat' (first | (refine hK _ ?_; clear hK K) | refine And.intro ?_ ?_ | exact cl | exact one_encP _ | refine one_take ?_ _ | refine one_drop ?_ _ | refine .inl ⟨_, _, Find_pure d hd.1, ?_⟩ | refine .inl ⟨_, _, hlv, ?_⟩ | (refine st ?_; try simp only [encC, pairs, encCert, dec_self, renL_encP, hge]) | simp only [encC, pairs, encCert, dec_self, renL_encP, hge])
     all_goals
     refine sD 21 [14, 16, 103] (fun P GD S K => XvBinOV P .neq 32 (.tmp 84) (S.get 20) (S.get 24) (fun r2 ef2 => Xge r2 false (fun k => k (S.get 18) e0) (fun g4 r4 ef4 => Xge g4 false (fun k => k (S.get 22) e0) (fun g5 r5 ef5 => Xge g5 false (fun k => XvBinOV P .neq 3 (.tmp 88) r4 r5 k) (fun g6 r6 ef6 => XvPick g6 (.atom (.bool true)) r6 (fun r7 ef7 => Xge r7 false (fun k => k (S.get 17) e0) (fun g9 r9 ef9 => Xge g9 false (fun k => k (S.get 21) e0) (fun g10 r10 ef10 => Xge g10 false (fun k => XvFnV P (M S.hp S.nx) (.fn 23 []) [r9, r10] k) (fun g11 r11 ef11 => Xge g11 false (fun k => XvUn .not r11 k) (fun g12 r12 ef12 => XvPick g12 (.atom (.bool true)) r12 (fun r13 ef13 => Xge r13 false (fun k => XvLoad P 47 (M (Eff.hp ef11 S.nx S.hp) (S.nx + ef11.add.length)) (S.get 19) k) (fun g15 r15 ef15 => Xge g15 false (fun k => XvFnV P (M (Eff.hp ef11 S.nx S.hp) (S.nx + ef11.add.length)) (.fn 25 []) [r15] k) (fun g16 r16 ef16 => Xge g16 false (fun k => XvLoad P 31 (M (Eff.hp ef16 (S.nx + ef11.add.length) (Eff.hp ef11 S.nx S.hp)) ((S.nx + ef11.add.length) + ef16.add.length)) (S.get 23) k) (fun g17 r17 ef17 => Xge g17 false (fun k => XvFnV P (M (Eff.hp ef16 (S.nx + ef11.add.length) (Eff.hp ef11 S.nx S.hp)) ((S.nx + ef11.add.length) + ef16.add.length)) (.fn 24 []) [r16, r17] k) (fun g18 r18 ef18 => Xge g18 false (fun k => XvUn .not r18 k) (fun g19 r19 ef19 => XvPick g19 (.atom (.bool true)) r19 (fun r20 ef20 => (trOk S.nx GD [⟨S.nx, 0, [], [], []⟩, ⟨S.nx, 0, [], [], []⟩, ⟨S.nx, 0, ef2.rd, [], []⟩, ⟨S.nx, 0, [], [], []⟩, ⟨S.nx, 0, ef4.rd, [], []⟩, ⟨S.nx, 0, ef5.rd, [], []⟩, ⟨S.nx, 0, ef6.rd, [], []⟩, ⟨S.nx, 0, ef7.rd, [], []⟩, ⟨S.nx, 0, [], [], []⟩, ⟨S.nx, 0, ef9.rd, [], []⟩, ⟨S.nx, 0, ef10.rd, [], []⟩, (Eff.tr ef11 S.nx), ⟨(S.nx + ef11.add.length), 0, ef12.rd, [], []⟩, ⟨(S.nx + ef11.add.length), 0, ef13.rd, [], []⟩, ⟨(S.nx + ef11.add.length), 0, [], [], []⟩, ⟨(S.nx + ef11.add.length), 0, ef15.rd, [], []⟩, (Eff.tr ef16 (S.nx + ef11.add.length)), ⟨((S.nx + ef11.add.length) + ef16.add.length), 0, ef17.rd, [], []⟩, (Eff.tr ef18 ((S.nx + ef11.add.length) + ef16.add.length)), ⟨(((S.nx + ef11.add.length) + ef16.add.length) + ef18.add.length), 0, ef19.rd, [], []⟩, ⟨(((S.nx + ef11.add.length) + ef16.add.length) + ef18.add.length), 0, ef20.rd, [], []⟩] = true ∧ K ⟨[(14, S.get 14), (16, S.get 16), (103, r20)], (Eff.hp ef18 ((S.nx + ef11.add.length) + ef16.add.length) (Eff.hp ef16 (S.nx + ef11.add.length) (Eff.hp ef11 S.nx S.hp))), (((S.nx + ef11.add.length) + ef16.add.length) + ef18.add.length), S.gh⟩)))))))))))))))))) fun K hK => ?_
     repeat' (first | (refine hK _ ?_; clear hK K) | (refine (?_ : trOk _ _ _ = true); kernel_rfl) | ((first | refine xG_intro (fun hg => ?_) (fun hg => ?_) | refine fun (hg : (_ : Prop)) => ?_) <;> ((try simp only [BQ, List.length_map] at hg); try (cases hg; done); try (exfalso; omega))) | refine And.intro ?_ ?_ | exact cl | exact one_encP _ | refine one_take ?_ _ | refine one_drop ?_ _ | refine .inl ⟨_, _, SamePairs_self (findP d) (by omega), ?_⟩ | refine ⟨_, _, SamePairs_self (findP d) (by omega), ?_⟩ | refine .inl ⟨_, _, model_pure (findC d), ?_⟩ | refine ⟨_, _, model_pure (findC d), ?_⟩ | refine .inl ⟨_, _, SameCert_self (findC d) (by omega) (by omega), ?_⟩ | refine ⟨_, _, SameCert_self (findC d) (by omega) (by omega), ?_⟩ | refine .inl ⟨_, _, hlv, ?_⟩ | refine ⟨_, _, hlv, ?_⟩ | (refine st ?_; try simp only [encC, pairs, encCert, dec_self, renL_encP]) | simp only [encC, pairs, encCert, dec_self, renL_encP])
     all_goals try simp (disch := omega) only [wrap_id, wrap8_id]
     all_goals
     refine Tri.cond rfl (fun h103 => ?_) (fun h103 => ?_)
     ·try (cases h103; done)
      all_goals (try simp only [CQ] at h103)
      all_goals
      refine sZ [12] (fun P S K => K ⟨[(12, (.atom (.bool false)))], S.hp, S.nx, S.gh⟩) fun K hK => ?_
      repeat' (first | (refine hK _ ?_; clear hK K) | refine And.intro ?_ ?_ | exact cl | exact one_encP _ | (refine st ?_; try simp only [encC, pairs, encCert, dec_self, renL_encP]) | simp only [encC, pairs, encCert, dec_self, renL_encP])
      all_goals
      refine Tri.ret ?_
      show ResOk _ _ _ _
      exact ResOk.val lsrB52 lpvB52
     ·try (cases h103; done)
      all_goals (try simp only [CQ] at h103)
      all_goals
      refine Tri.skip ?_
      refine rZ [14, 16] (fun P S K => XvBinOV P .add 3 (.const (.int .i64 1)) (S.get 16) (.atom (.int .i64 1)) (fun r1 _ => K ⟨[(14, S.get 14), (16, r1)], S.hp, S.nx, S.gh⟩)) fun K hK => ?_
      repeat' (first | (refine hK _ ?_; clear hK K) | refine And.intro ?_ ?_ | exact cl | exact one_encP _ | (refine st ?_; try simp only [encC, pairs, encCert, dec_self, renL_encP]) | simp only [encC, pairs, encCert, dec_self, renL_encP])
      all_goals try simp (disch := omega) only [wrap_id, wrap8_id]
      all_goals
      refine ⟨⟨i + 1, by omega⟩, [], by dsimp only; omega, ?_⟩
      exact leqB52
    ·try (cases h59; done)
     all_goals (try simp only [CQ] at h59)
     all_goals
     refine Tri.exit ?_
     refine sZ [12] (fun P S K => XvFnIV P (M S.hp S.nx) (.fn 21 []) [] (fun r0 ef0 => K ⟨[(12, r0)], (Eff.hp ef0 S.nx S.hp), (S.nx + ef0.add.length), S.gh⟩)) fun K hK => ?_
     repeat' (first | (refine hK _ ?_; clear hK K) | refine And.intro ?_ ?_ | exact cl | exact one_encP _ | refine .inl ⟨_, _, hlv, ?_⟩ | (refine st ?_; try simp only [encC, pairs, encCert, dec_self, renL_encP]) | simp only [encC, pairs, encCert, dec_self, renL_encP])
     all_goals
     refine Tri.ret ?_
     show ResOk _ _ _ _
     exact ResOk.val lsrB52 lpvB52
end Go.Proofs.Ytcdeilgijleoaaa
