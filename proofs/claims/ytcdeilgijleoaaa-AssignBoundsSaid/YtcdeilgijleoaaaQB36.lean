/-
  Walks: own, of; the law AssignLoads.
-/
import Derived.Test.YtcdeilgijleoaaaQVR
import Derived.Test.YtcdeilgijleoaaaQB23
import Derived.Test.YtcdeilgijleoaaaQB16
import Derived.Test.YtcdeilgijleoaaaQB17
set_option linter.all false
namespace Go.Proofs.Ytcdeilgijleoaaa
open Go Go.RowKit
set_option linter.unusedSimpArgs false
set_option linter.unusedVariables false
set_option maxRecDepth 20000
set_option maxHeartbeats 1000000
theorem pureL_encC (l : List CaseD) : pureL (l.map encC) = true := pureL_map encC pure_case l
theorem pureL_pairsL (l : List (List (Int × Int))) : pureL (l.map pairs) = true := pureL_map pairs pure_pairs l
theorem getD_encC {l : List CaseD} {k : Nat} (h : k < l.length) : (l.map encC).getD k .junk = encC (l.getD k ⟨[], 0, []⟩) := by
  simp [List.getD_eq_getElem?_getD, h]
theorem getD_pairsL {l : List (List (Int × Int))} {k : Nat} (h : k < l.length) : (l.map pairs).getD k .junk = pairs (l.getD k []) := by
  simp [List.getD_eq_getElem?_getD, h]
theorem getD_in {α : Type} {l : List α} {k : Nat} {d : α} (h : k < l.length) : l.getD k d ∈ l := by simp [List.getD_eq_getElem?_getD, h]
theorem own_pure (c : CaseD) : Pure Try.prog 16 [encC c] (encC c) [] := by
  refine Pure.introR (rv := [.cell 2 38]) Try.func16 (by kernel_rfl) rfl rfl rfl (Nat.le_of_ble_eq_true rfl) ?_ ?_
  · simp [pure_case, PV.pure, pureL]
  refine sZ [1, 2] (fun P S K => XvBox S.nx (S.get 0) (fun r0 ef0 => XvAlloc P 38 (S.nx + ef0.add.length) (fun r1 ef1 => K ⟨[(1, r0), (2, r1)], (Eff.hp ef1 (S.nx + ef0.add.length) (Eff.hp ef0 S.nx S.hp)), ((S.nx + ef0.add.length) + ef1.add.length), S.gh⟩))) fun K hK => ?_
  repeat' (first | (refine hK _ ?_; clear hK K) | ((first | refine xG_intro (fun hg => ?_) (fun hg => ?_) | refine fun (hg : (_ : Prop)) => ?_) <;> ((try simp only [BQ] at hg); try (exfalso; omega))) | refine And.intro ?_ ?_ | exact cl | refine one_take ?_ _ | refine one_drop ?_ _ | (refine st ?_; try simp only [encC, pairs]) | simp only [encC, pairs])
  all_goals
  refine sZ [2] (fun P S K => XvFieldAddr P 25 0 (S.get 1) (fun r0 _ => XvLoad P 22 (M S.hp S.nx) r0 (fun r1 _ => XvFieldAddr P 25 1 (S.get 1) (fun r2 _ => XvLoad P 3 (M S.hp S.nx) r2 (fun r3 _ => XvFieldAddr P 25 2 (S.get 1) (fun r4 _ => XvLoad P 23 (M S.hp S.nx) r4 (fun r5 _ => XvBuild P 38 [(0, r1), (1, r3), (2, r5)] (fun r6 _ => XvStore P 38 (M S.hp S.nx) (S.get 2) r6 (fun r7 ef7 => K ⟨[(2, S.get 2)], (Eff.hp ef7 S.nx S.hp), (S.nx + ef7.add.length), S.gh⟩))))))))) fun K hK => ?_
  repeat' (first | (refine hK _ ?_; clear hK K) | ((first | refine xG_intro (fun hg => ?_) (fun hg => ?_) | refine fun (hg : (_ : Prop)) => ?_) <;> ((try simp only [BQ] at hg); try (exfalso; omega))) | refine And.intro ?_ ?_ | exact cl | refine one_take ?_ _ | refine one_drop ?_ _ | (refine st ?_; try simp only [encC, pairs]) | simp only [encC, pairs])
  all_goals
  refine Tri.ret ?_
  show ResR _ _ _ _ _
  refine ResR.cell1 (encC c) rfl ?_ (pure_case _)
  exact sealed_pure _ _ _ (pure_case _)
end Go.Proofs.Ytcdeilgijleoaaa
set_option linter.all false
namespace Go.Proofs.Ytcdeilgijleoaaa
open Go Go.RowKit
set_option linter.unusedSimpArgs false
set_option linter.unusedVariables false
set_option maxRecDepth 20000
set_option maxHeartbeats 1000000
theorem renL_encC (ρ : Nat → Nat) (l : List CaseD) : renL ρ (l.map encC) = l.map encC := renL_pure ρ _ (pureL_encC l)
theorem renL_pairsL (ρ : Nat → Nat) (l : List (List (Int × Int))) : renL ρ (l.map pairs) = l.map pairs := renL_pure ρ _ (pureL_pairsL l)
theorem spoilt_held {c : CaseD} {how by_ : Int} (hG : Good c) (hb : c.bars.length ≤ 1000) : Held (spoiltC c how by_) := by
  have h90 := around_lo (n := by_) (most := 9) (by decide)
  have h91 := around_hi (n := by_) (most := 9) (by decide)
  have h50 := around_lo (n := by_) (most := 5) (by decide)
  have h51 := around_hi (n := by_) (most := 5) (by decide)
  have h40 := around_lo (n := by_) (most := 4) (by decide)
  have h41 := around_hi (n := by_) (most := 4) (by decide)
  have hm := hG.many
  have hlo := hG.lo
  have hhi := hG.hi
  have hk0 : 0 ≤ spK c by_ := around_lo (by omega)
  have hk1 : spK c by_ < max (c.sizes.length : Int) 1 := around_hi (n := by_.tdiv 3) (most := max (c.sizes.length : Int) 1) (by omega)
  have hp : I64 c.people := by unfold I64; omega
  have hs : ∀ x, x ∈ c.sizes → I64 x := fun x hx => by have := hG.size x hx; unfold I64; omega
  have hbr : ∀ p, p ∈ c.bars → I64 p.1 ∧ I64 p.2 := fun p hp => by have := hG.bar p hp; unfold I64; omega
  have hn : I64 (spN by_) := by unfold spN I64; omega
  have hk : I64 (spK c by_) := by unfold I64; omega
  unfold spoiltC
  split
  · exact ⟨show c.sizes.length ≤ 1000000 by omega, show c.bars.length ≤ 1000000 by omega, hn, hs, hbr⟩
  · split
    · refine ⟨show c.sizes.length ≤ 1000000 by omega, by simp; omega, hp, hs, fun p h => ?_⟩
      rcases List.mem_append.1 h with h | h
      · exact hbr p h
      · rw [List.mem_singleton.1 h]; exact ⟨hk, hn⟩
    · split
      · refine ⟨show c.sizes.length ≤ 1000000 by omega, by simp; omega, hp, hs, fun p h => ?_⟩
        rcases List.mem_append.1 h with h | h
        · exact hbr p h
        · rw [List.mem_singleton.1 h]; exact ⟨hn, by unfold I64; simp⟩
      · split
        · refine ⟨by split <;> simp <;> omega, by simpa using (by omega), hp, fun x h => ?_, hbr⟩
          simp only at h
          split at h
          · rcases List.mem_or_eq_of_mem_set h with h | rfl
            · exact hs x h
            · have : ∀ k : Fin 5, -1 ≤ li sz5 k.1 ∧ li sz5 k.1 ≤ 1025 := by decide
              have := this ⟨(around by_ 5).toNat, by omega⟩
              unfold I64; simp only at this; omega
          · exact hs x h
        · split
          · have hrl := runB_len (spK c by_) (runM c (spK c by_))
            have hrm : runM c (spK c by_) ≤ 6 := by unfold runM; split <;> omega
            have hrun : ∀ n p, p ∈ runB (spK c by_) n → p.1 = spK c by_ ∧ 0 ≤ p.2 ∧ p.2 < n := by
              intro n
              induction n with
              | zero => intro p h; cases h
              | succ n ih =>
                intro p h
                rw [runB] at h
                rcases List.mem_append.1 h with h | h
                · have := ih p h; omega
                · rw [List.mem_singleton.1 h]; exact ⟨rfl, by simp only; omega, by simp only; omega⟩
            refine ⟨show c.sizes.length ≤ 1000000 by omega, by simp; omega, hp, hs, fun p h => ?_⟩
            rcases List.mem_append.1 h with h | h
            · exact hbr p h
            · have := hrun _ p h
              unfold I64 at *; omega
          · refine ⟨by simp; omega, by simpa using (by omega), hp, fun x h => ?_, hbr⟩
            rcases List.mem_append.1 h with h | h
            · exact hs x h
            · rw [(List.mem_replicate.1 h).2]; unfold I64; omega
theorem bentP_len (l : List (Int × Int)) (how by_ : Int) : (bentP l how by_).length ≤ l.length + 1 := by
  unfold bentP; split
  · simp
  · split
    · simp
    · split
      · simp
      · split
        · simp
        · split
          · simp
          · simp; omega
end Go.Proofs.Ytcdeilgijleoaaa
set_option linter.all false
namespace Go.Proofs.Ytcdeilgijleoaaa
open Go Go.RowKit
set_option linter.unusedSimpArgs false
set_option linter.unusedVariables false
set_option maxRecDepth 20000
set_option maxHeartbeats 1000000
theorem leqB36 {p : Prop} (h : p := by (refine ⟨4, ?_, ?_, rfl, by simp, rfl, fun _ h _ => absurd h (Nat.not_lt_zero _)⟩ <;> (simp only [List.forall_mem_cons]; repeat' (first | refine And.intro ?_ ?_ | (intro p hp; exact absurd hp List.not_mem_nil) | rfl | exact sp (pure_case _) | exact sp (pure_pairs _) | exact sp (pure_cert _) | exact (sealed_pure _ _ _ (pure_ints _)).trans (ren_ints _ _).symm | exact (sealed_pure _ _ _ (pure_strs _)).trans (ren_strs _ _).symm | exact sp (by assumption) | (intro o ho; cases ho; refine ⟨by decide, ?_⟩; first | (refine LeqS.row rfl ?_ ?_; (next => (first | rfl | (simp only [List.map_append, List.map_cons, List.map_nil, List.append_nil, List.nil_append, List.append_assoc, List.cons_append, encI, encS, ints, strs]; done) | (simp [encI, encS, ints, strs, encP]; done))); (next => (first | rfl | exact pureL_encI _ | exact pureL_encS _ | exact pureL_ints _ | exact pureL_strs _ | exact pureL_encP _ | (simp [pureL_append, pureL_encI, pureL_encS, pureL_ints, pureL_strs, pureL, PV.pure, pure_ints, pure_strs, pure_case, pureL_encP, pure_pairs, pure_cert]; done))); done) | refine ⟨_, rfl, rfl, ?_⟩) | (simp [St.born, St.known, retV, St.get, St.obj, lk, sealed, PV.ren, renL, rmap, AO.ren, ints, strs, encI, encS, map_sealed_encI, map_sealed_encS, map_sealed_ints, map_sealed_strs, map_ren_encI, map_ren_encS, map_ren_ints, map_ren_strs, renL_encI, renL_encS, renL_ints, renL_strs, ren_case, encC, pairs, renL_encP, map_sealed_encP, map_ren_encP, encP, take_map_len, encCert] <;> omega)))); first | done | fail) : p := h
def toN (by_ : Int) : Int := around by_ 9 - 1
def tornX (x : CertD) (how by_ : Int) : CertD :=
  if around how 6 = 0 then ⟨x.some, x.people, x.least + toN by_ - 3⟩
  else if around how 6 = 1 then ⟨x.some, x.people ++ [toN by_], x.least⟩
  else if around how 6 = 2 then ⟨x.some ++ [toN by_], x.people, x.least⟩
  else if around how 6 = 3 then ⟨x.some, x.people.drop 1, x.least⟩
  else if around how 6 = 4 then ⟨x.some.take (x.some.length - 1), x.people, x.least⟩
  else ⟨[toN by_], [], by_.tmod 12⟩
theorem torn_0 {x : CertD} {how by_ : Int} (h : around how 6 = 0) : tornX x how by_ = ⟨x.some, x.people, x.least + toN by_ - 3⟩ := if_pos h
theorem torn_1 {x : CertD} {how by_ : Int} (h : around how 6 = 1) : tornX x how by_ = ⟨x.some, x.people ++ [toN by_], x.least⟩ := by unfold tornX; simp [h]
theorem torn_2 {x : CertD} {how by_ : Int} (h : around how 6 = 2) : tornX x how by_ = ⟨x.some ++ [toN by_], x.people, x.least⟩ := by unfold tornX; simp [h]
theorem torn_3 {x : CertD} {how by_ : Int} (h : around how 6 = 3) : tornX x how by_ = ⟨x.some, x.people.drop 1, x.least⟩ := by unfold tornX; simp [h]
theorem torn_4 {x : CertD} {how by_ : Int} (h : around how 6 = 4) : tornX x how by_ = ⟨x.some.take (x.some.length - 1), x.people, x.least⟩ := by unfold tornX; simp [h]
theorem torn_5 {x : CertD} {how by_ : Int} (h0 : ¬ around how 6 = 0) (h1 : ¬ around how 6 = 1) (h2 : ¬ around how 6 = 2) (h3 : ¬ around how 6 = 3) (h4 : ¬ around how 6 = 4) : tornX x how by_ = ⟨[toN by_], [], by_.tmod 12⟩ := by unfold tornX; simp [h0, h1, h2, h3, h4]
theorem take_two (l : List Int) {n : Int} (h0 : 0 ≤ n) : l.take n.toNat = l.take (min (min (l.length : Int) n).toNat l.length) := by
  rw [show min (min (l.length : Int) n).toNat l.length = min n.toNat l.length by omega]
  rcases Nat.le_total n.toNat l.length with h | h
  · rw [Nat.min_eq_left h]
  · rw [Nat.min_eq_right h, List.take_length, List.take_of_length_le h]
theorem seal_take {H : Nat → Option AO} {keep : Nat → Bool} {k i sz n : Nat} {els : List PV} (hi : H i = some ⟨sz, els⟩) (hk : keep i = false) (hn : n ≤ els.length) (hp : pureL els = true) : sealed H keep (k + 1) (.ob i sz 0 n) = .sl sz (els.take n) := by
  have h2 : (els.take n).map (sealed H keep k) = els.take n := by
    rw [List.map_take, map_sealed_pure _ _ _ hp]
  simp only [sealed, hk, hi]
  simp only [Bool.false_eq_true, if_false, Nat.zero_add, hn, and_self, if_true, List.drop_zero, h2]
theorem tk_tk (l : List Int) {n : Int} (h0 : 0 ≤ n) : (((l.map encI).take (min (l.length : Int) n).toNat)).take (min (min (l.length : Int) n).toNat l.length) = (l.take n.toNat).map encI := by
  rw [List.take_take, ← List.map_take, take_two l h0]
  congr 2
  omega
theorem Take_pure (l : List Int) (n : Int) (hl : l.length ≤ 9223372036854775807) (h0 : 0 ≤ n) (h1 : n ≤ 1000) : Pure Try.prog 27 [ints l, encI n] (ints (l.take n.toNat)) [] := by
  refine Pure.intro (ts := [4]) Try.func27 (by kernel_rfl) rfl rfl rfl (Nat.le_of_ble_eq_true rfl) ?_ ?_
  · simp [pure_ints, pure_strs, encI, encS, PV.pure, pureL]
  refine sY [0, 1] (fun P S K => K ⟨[(0, S.get 0), (1, S.get 1)], S.hp, S.nx, S.gh⟩) ?_
  all_goals
  refine sY [0, 1, 5] (fun P S K => K ⟨[(0, S.get 0), (1, S.get 1), (5, (.atom (.slice none 0 0)))], S.hp, S.nx, S.gh⟩) ?_
  all_goals
  refine sY [4] (fun P S K => XvLen P 22 (S.get 0) (fun r3 _ => XvMinMax false r3 (S.get 1) (fun r5 _ => XvSliceV P 22 (S.get 0) none (some r5) (fun r6 _ => (22 = 22 ∧ XvAppend P 22 (M S.hp S.nx) (S.get 5) r6 (fun r7 ef7 => K ⟨[(4, r7)], (Eff.hp ef7 S.nx S.hp), (S.nx + ef7.add.length), S.gh⟩)))))) ?_
  all_goals
  refine Tri.ret ?_
  show ResOk _ _ _ _
  rw [ints, ← tk_tk l h0]
  refine ResOk.frz 4 (seal_take rfl rfl (by simp) ?_) ?_
  · rw [← List.map_take]; exact pureL_encI _
  · rw [tk_tk l h0]; exact pure_ints _
theorem Torn_pure (so pe : List Int) (le : Int) (how by_ : Int) (hs : so.length ≤ 1000) (hp : pe.length ≤ 1000) (hl : -1000000000 ≤ le ∧ le ≤ 1000000000) (hh : I64 how) (hb : I64 by_) : Pure Try.prog 26 [encCert ⟨so, pe, le⟩, encI how, encI by_] (encCert (tornX ⟨so, pe, le⟩ how by_)) [] := by
  have h90 := around_lo (n := by_) (most := 9) (by decide)
  have h91 := around_hi (n := by_) (most := 9) (by decide)
  have hb1 := hb.1
  have hb2 := hb.2
  have hl1 := hl.1
  have hl2 := hl.2
  have hNe : around by_ 9 - 1 = toN by_ := rfl
  refine Pure.introR (rv := [.cell 6 31]) Try.func26 (by kernel_rfl) rfl rfl rfl (Nat.le_of_ble_eq_true rfl) ?_ ?_
  · simp [pure_cert, encI, PV.pure, pureL]
  refine sZ [1, 2, 3, 6] (fun P S K => XvBox S.nx (S.get 0) (fun r0 ef0 => XvAlloc P 31 (S.nx + ef0.add.length) (fun r1 ef1 => K ⟨[(1, S.get 1), (2, S.get 2), (3, r0), (6, r1)], (Eff.hp ef1 (S.nx + ef0.add.length) (Eff.hp ef0 S.nx S.hp)), ((S.nx + ef0.add.length) + ef1.add.length), S.gh⟩))) fun K hK => ?_
  repeat' (first | (refine hK _ ?_; clear hK K) | ((first | refine xG_intro (fun hg => ?_) (fun hg => ?_) | refine fun (hg : (_ : Prop)) => ?_) <;> ((try simp only [BQ] at hg); try (exfalso; omega))) | refine And.intro ?_ ?_ | exact cl | exact hs1 | exact hs2 | refine one_take ?_ _ | refine one_drop ?_ _ | (refine st ?_; try simp only [encCert, zeroCert]) | simp only [encCert, zeroCert])
  all_goals
  refine Tri.cut (α := Unit) (fun ⟨⟩ => ⟨[(1, encI how), (2, encI by_), (6, .ptr 0 3 0 0), (7, .ptr 1 3 0 0)], [(0, some ⟨3, [zeroCert]⟩), (1, some ⟨3, [.agg [.ob 2 1 0 so.length, .ob 3 1 0 pe.length, encI le]]⟩), (2, some ⟨1, so.map encI⟩), (3, some ⟨1, pe.map encI⟩)], 4, []⟩) ?_ ?_
  ·skip
   refine rD 12 [1, 2, 6, 7] (fun P GD S K => XvBuildS P 22 0 S.nx [] (fun r0 ef0 => XvFieldAddr P 31 0 (S.get 3) (fun r1 ef1 => XvLoad P 22 (M (Eff.hp ef0 S.nx S.hp) (S.nx + ef0.add.length)) r1 (fun r2 ef2 => (22 = 22 ∧ XvAppend P 22 (M (Eff.hp ef0 S.nx S.hp) (S.nx + ef0.add.length)) r0 r2 (fun r3 ef3 => XvBuildS P 22 0 ((S.nx + ef0.add.length) + ef3.add.length) [] (fun r4 ef4 => XvFieldAddr P 31 1 (S.get 3) (fun r5 ef5 => XvLoad P 22 (M (Eff.hp ef4 ((S.nx + ef0.add.length) + ef3.add.length) (Eff.hp ef3 (S.nx + ef0.add.length) (Eff.hp ef0 S.nx S.hp))) (((S.nx + ef0.add.length) + ef3.add.length) + ef4.add.length)) r5 (fun r6 ef6 => (22 = 22 ∧ XvAppend P 22 (M (Eff.hp ef4 ((S.nx + ef0.add.length) + ef3.add.length) (Eff.hp ef3 (S.nx + ef0.add.length) (Eff.hp ef0 S.nx S.hp))) (((S.nx + ef0.add.length) + ef3.add.length) + ef4.add.length)) r4 r6 (fun r7 ef7 => XvFieldAddr P 31 2 (S.get 3) (fun r8 ef8 => XvLoad P 3 (M (Eff.hp ef7 (((S.nx + ef0.add.length) + ef3.add.length) + ef4.add.length) (Eff.hp ef4 ((S.nx + ef0.add.length) + ef3.add.length) (Eff.hp ef3 (S.nx + ef0.add.length) (Eff.hp ef0 S.nx S.hp)))) ((((S.nx + ef0.add.length) + ef3.add.length) + ef4.add.length) + ef7.add.length)) r8 (fun r9 ef9 => XvBuild P 31 [(0, r3), (1, r7), (2, r9)] (fun r10 ef10 => XvAlloc P 31 ((((S.nx + ef0.add.length) + ef3.add.length) + ef4.add.length) + ef7.add.length) (fun r11 ef11 => (trOk S.nx GD [(Eff.tr ef0 S.nx), ⟨(S.nx + ef0.add.length), 0, ef1.rd, [], []⟩, ⟨(S.nx + ef0.add.length), 0, ef2.rd, [], []⟩, (Eff.tr ef3 (S.nx + ef0.add.length)), (Eff.tr ef4 ((S.nx + ef0.add.length) + ef3.add.length)), ⟨(((S.nx + ef0.add.length) + ef3.add.length) + ef4.add.length), 0, ef5.rd, [], []⟩, ⟨(((S.nx + ef0.add.length) + ef3.add.length) + ef4.add.length), 0, ef6.rd, [], []⟩, (Eff.tr ef7 (((S.nx + ef0.add.length) + ef3.add.length) + ef4.add.length)), ⟨((((S.nx + ef0.add.length) + ef3.add.length) + ef4.add.length) + ef7.add.length), 0, ef8.rd, [], []⟩, ⟨((((S.nx + ef0.add.length) + ef3.add.length) + ef4.add.length) + ef7.add.length), 0, ef9.rd, [], []⟩, ⟨((((S.nx + ef0.add.length) + ef3.add.length) + ef4.add.length) + ef7.add.length), 0, ef10.rd, [], []⟩, (Eff.tr ef11 ((((S.nx + ef0.add.length) + ef3.add.length) + ef4.add.length) + ef7.add.length))] = true ∧ XvStore P 31 (M (Eff.hp ef11 ((((S.nx + ef0.add.length) + ef3.add.length) + ef4.add.length) + ef7.add.length) (Eff.hp ef7 (((S.nx + ef0.add.length) + ef3.add.length) + ef4.add.length) (Eff.hp ef4 ((S.nx + ef0.add.length) + ef3.add.length) (Eff.hp ef3 (S.nx + ef0.add.length) (Eff.hp ef0 S.nx S.hp))))) (((((S.nx + ef0.add.length) + ef3.add.length) + ef4.add.length) + ef7.add.length) + ef11.add.length)) r11 r10 (fun r12 ef12 => K ⟨[(1, S.get 1), (2, S.get 2), (6, S.get 6), (7, r11)], (Eff.hp ef12 (((((S.nx + ef0.add.length) + ef3.add.length) + ef4.add.length) + ef7.add.length) + ef11.add.length) (Eff.hp ef11 ((((S.nx + ef0.add.length) + ef3.add.length) + ef4.add.length) + ef7.add.length) (Eff.hp ef7 (((S.nx + ef0.add.length) + ef3.add.length) + ef4.add.length) (Eff.hp ef4 ((S.nx + ef0.add.length) + ef3.add.length) (Eff.hp ef3 (S.nx + ef0.add.length) (Eff.hp ef0 S.nx S.hp)))))), ((((((S.nx + ef0.add.length) + ef3.add.length) + ef4.add.length) + ef7.add.length) + ef11.add.length) + ef12.add.length), S.gh⟩))))))))))))))))) fun K hK => ?_
   repeat' (first | (refine hK _ ?_; clear hK K) | (refine (?_ : trOk _ _ _ = true); kernel_rfl) | ((first | refine xG_intro (fun hg => ?_) (fun hg => ?_) | refine fun (hg : (_ : Prop)) => ?_) <;> ((try simp only [BQ] at hg); try (exfalso; omega))) | refine And.intro ?_ ?_ | exact cl | exact hs1 | exact hs2 | refine one_take ?_ _ | refine one_drop ?_ _ | (refine st ?_; try simp only [encCert, zeroCert]) | simp only [encCert, zeroCert])
   all_goals
   refine ⟨(), [1, 6, 3, 5], ?_⟩
   exact leqB36
  ·rintro ⟨⟩
   refine sZ [1, 2, 6, 7, 8] (fun P S K => XvFnIV P (M S.hp S.nx) (.fn 35 []) [(S.get 2), (.atom (.int .i64 9))] (fun r1 ef1 => XvBinOV P .sub 3 (.const (.int .i64 1)) r1 (.atom (.int .i64 1)) (fun r2 _ => K ⟨[(1, S.get 1), (2, S.get 2), (6, S.get 6), (7, S.get 7), (8, r2)], (Eff.hp ef1 S.nx S.hp), (S.nx + ef1.add.length), S.gh⟩))) fun K hK => ?_
   repeat' (first | (refine hK _ ?_; clear hK K) | ((first | refine xG_intro (fun hg => ?_) (fun hg => ?_) | refine fun (hg : (_ : Prop)) => ?_) <;> ((try simp only [BQ] at hg); try (exfalso; omega))) | refine And.intro ?_ ?_ | exact cl | exact hs1 | exact hs2 | refine one_take ?_ _ | refine one_drop ?_ _ | refine .inl ⟨_, _, Around_pure how 6 hh (by decide), ?_⟩ | refine ⟨_, _, Around_pure how 6 hh (by decide), ?_⟩ | refine .inl ⟨_, _, Around_pure by_ 9 hb (by decide), ?_⟩ | refine ⟨_, _, Around_pure by_ 9 hb (by decide), ?_⟩ | (refine st ?_; try simp only [encCert, zeroCert]) | simp only [encCert, zeroCert])
   all_goals try simp (disch := omega) only [wrap_id, wrap8_id]
   rw [hNe]
   generalize hne : toN by_ = n at h90 h91
   all_goals
   refine Tri.seq ?_
   refine sZ [2, 6, 7, 8, 24] (fun P S K => XvFnIV P (M S.hp S.nx) (.fn 35 []) [(S.get 1), (.atom (.int .i64 6))] (fun r1 ef1 => K ⟨[(2, S.get 2), (6, S.get 6), (7, S.get 7), (8, S.get 8), (24, r1)], (Eff.hp ef1 S.nx S.hp), (S.nx + ef1.add.length), S.gh⟩)) fun K hK => ?_
   repeat' (first | (refine hK _ ?_; clear hK K) | ((first | refine xG_intro (fun hg => ?_) (fun hg => ?_) | refine fun (hg : (_ : Prop)) => ?_) <;> ((try simp only [BQ] at hg); try (exfalso; omega))) | refine And.intro ?_ ?_ | exact cl | exact hs1 | exact hs2 | refine one_take ?_ _ | refine one_drop ?_ _ | refine .inl ⟨_, _, Around_pure how 6 hh (by decide), ?_⟩ | refine ⟨_, _, Around_pure how 6 hh (by decide), ?_⟩ | refine .inl ⟨_, _, Around_pure by_ 9 hb (by decide), ?_⟩ | refine ⟨_, _, Around_pure by_ 9 hb (by decide), ?_⟩ | (refine st ?_; try simp only [encCert, zeroCert]) | simp only [encCert, zeroCert])
   all_goals
   refine Tri.block ?_
   refine sZ [2, 6, 7, 8, 24, 30] (fun P S K => XvBinOV P .eql 3 (.const (.int .i64 0)) (S.get 24) (.atom (.int .i64 0)) (fun r0 _ => K ⟨[(2, S.get 2), (6, S.get 6), (7, S.get 7), (8, S.get 8), (24, S.get 24), (30, r0)], S.hp, S.nx, S.gh⟩)) fun K hK => ?_
   repeat' (first | (refine hK _ ?_; clear hK K) | ((first | refine xG_intro (fun hg => ?_) (fun hg => ?_) | refine fun (hg : (_ : Prop)) => ?_) <;> ((try simp only [BQ] at hg); try (exfalso; omega))) | refine And.intro ?_ ?_ | exact cl | exact hs1 | exact hs2 | refine one_take ?_ _ | refine one_drop ?_ _ | (refine st ?_; try simp only [encCert, zeroCert]) | simp only [encCert, zeroCert])
   all_goals
   refine Tri.cond rfl (fun h30 => ?_) (fun h30 => ?_)
   ·try (cases h30; done)
    all_goals (try simp only [CQ] at h30)
    all_goals
    refine rZ [6, 7] (fun P S K => XvFieldAddr P 31 2 (S.get 7) (fun r0 _ => XvLoad P 3 (M S.hp S.nx) r0 (fun r1 _ => XvBinOV P .add 3 (.tmp 34) r1 (S.get 8) (fun r3 _ => XvBinOV P .sub 3 (.const (.int .i64 3)) r3 (.atom (.int .i64 3)) (fun r4 _ => XvFieldAddr P 31 2 (S.get 7) (fun r5 _ => XvStore P 3 (M S.hp S.nx) r5 r4 (fun r6 ef6 => K ⟨[(6, S.get 6), (7, S.get 7)], (Eff.hp ef6 S.nx S.hp), (S.nx + ef6.add.length), S.gh⟩))))))) fun K hK => ?_
    repeat' (first | (refine hK _ ?_; clear hK K) | ((first | refine xG_intro (fun hg => ?_) (fun hg => ?_) | refine fun (hg : (_ : Prop)) => ?_) <;> ((try simp only [BQ] at hg); try (exfalso; omega))) | refine And.intro ?_ ?_ | exact cl | exact hs1 | exact hs2 | refine one_take ?_ _ | refine one_drop ?_ _ | (refine st ?_; try simp only [encCert, zeroCert]) | simp only [encCert, zeroCert])
    all_goals try simp (disch := omega) only [wrap_id, wrap8_id]
    all_goals
    refine sZ [6] (fun P S K => XvLoad P 31 (M S.hp S.nx) (S.get 7) (fun r0 _ => XvStore P 31 (M S.hp S.nx) (S.get 6) r0 (fun r1 ef1 => K ⟨[(6, S.get 6)], (Eff.hp ef1 S.nx S.hp), (S.nx + ef1.add.length), S.gh⟩))) fun K hK => ?_
    repeat' (first | (refine hK _ ?_; clear hK K) | ((first | refine xG_intro (fun hg => ?_) (fun hg => ?_) | refine fun (hg : (_ : Prop)) => ?_) <;> ((try simp only [BQ] at hg); try (exfalso; omega))) | refine And.intro ?_ ?_ | exact cl | exact hs1 | exact hs2 | refine one_take ?_ _ | refine one_drop ?_ _ | (refine st ?_; try simp only [encCert, zeroCert]) | simp only [encCert, zeroCert])
    all_goals
    refine Tri.ret ?_
    show ResR _ _ _ _ _
    first
      | rw [torn_0 (by assumption), hne]
      | rw [torn_1 (by assumption), hne]
      | rw [torn_2 (by assumption), hne]
      | rw [torn_3 (by assumption)]
      | rw [torn_4 (by assumption)]
      | rw [torn_5 (by assumption) (by assumption) (by assumption) (by assumption) (by assumption), hne]
    all_goals refine ResR.cell1 (PV.agg [_, _, _]) rfl ?_ (pure_cert _)
    first
      | (have hq1 : pe.length = 1 := (by omega); obtain ⟨y, rfl⟩ : ∃ y, pe = [y] := List.length_eq_one_iff.1 hq1; simp [-List.map_map, sealed, St.obj, lk, encCert, ints, map_sealed_encI, take_map_len, encI, PV.ren, renL]; done)
      | (have hq1 : pe.length = 0 := (by omega); obtain rfl : pe = [] := List.eq_nil_of_length_eq_zero hq1; simp [-List.map_map, sealed, St.obj, lk, encCert, ints, map_sealed_encI, take_map_len, encI, PV.ren, renL]; done)
      | (have hq1 : so.length = 0 := (by omega); obtain rfl : so = [] := List.eq_nil_of_length_eq_zero hq1; simp [-List.map_map, sealed, St.obj, lk, encCert, ints, map_sealed_encI, take_map_len, encI, PV.ren, renL]; done)
      | (obtain ⟨y, r, rfl⟩ : ∃ y r, pe = y :: r := (by cases pe with | nil => simp at * | cons y r => exact ⟨y, r, rfl⟩); simp [-List.map_map, sealed, St.obj, lk, encCert, ints, map_sealed_encI, take_map_len, Nat.add_comm 1]; done)
      | (simp [-List.map_map, sealed, St.obj, lk, encCert, ints, map_sealed_encI, take_map_len]; done)
      | (simp [-List.map_map, sealed, St.obj, lk, encCert, ints, map_sealed_encI, take_map_len, List.take_of_length_le, encI]; done)
      | (simp [sealed, St.obj, lk, encCert, ints, List.take_of_length_le, encI, PV.ren, renL]; done)
   ·try (cases h30; done)
    all_goals (try simp only [CQ] at h30)
    all_goals
    refine sZ [2, 6, 7, 8, 24, 38] (fun P S K => XvBinOV P .eql 3 (.const (.int .i64 1)) (S.get 24) (.atom (.int .i64 1)) (fun r0 _ => K ⟨[(2, S.get 2), (6, S.get 6), (7, S.get 7), (8, S.get 8), (24, S.get 24), (38, r0)], S.hp, S.nx, S.gh⟩)) fun K hK => ?_
    repeat' (first | (refine hK _ ?_; clear hK K) | ((first | refine xG_intro (fun hg => ?_) (fun hg => ?_) | refine fun (hg : (_ : Prop)) => ?_) <;> ((try simp only [BQ] at hg); try (exfalso; omega))) | refine And.intro ?_ ?_ | exact cl | exact hs1 | exact hs2 | refine one_take ?_ _ | refine one_drop ?_ _ | (refine st ?_; try simp only [encCert, zeroCert]) | simp only [encCert, zeroCert])
    all_goals
    refine Tri.cond rfl (fun h38 => ?_) (fun h38 => ?_)
    ·try (cases h38; done)
     all_goals (try simp only [CQ] at h38)
     all_goals
     refine rZ [6, 7] (fun P S K => XvFieldAddr P 31 1 (S.get 7) (fun r0 _ => XvLoad P 22 (M S.hp S.nx) r0 (fun r1 _ => XvBuildS P 22 1 S.nx [(0, (S.get 8))] (fun r3 ef3 => (22 = 22 ∧ XvAppend P 22 (M (Eff.hp ef3 S.nx S.hp) (S.nx + ef3.add.length)) r1 r3 (fun r4 ef4 => XvFieldAddr P 31 1 (S.get 7) (fun r5 _ => XvStore P 22 (M (Eff.hp ef4 (S.nx + ef3.add.length) (Eff.hp ef3 S.nx S.hp)) ((S.nx + ef3.add.length) + ef4.add.length)) r5 r4 (fun r6 ef6 => K ⟨[(6, S.get 6), (7, S.get 7)], (Eff.hp ef6 ((S.nx + ef3.add.length) + ef4.add.length) (Eff.hp ef4 (S.nx + ef3.add.length) (Eff.hp ef3 S.nx S.hp))), (((S.nx + ef3.add.length) + ef4.add.length) + ef6.add.length), S.gh⟩)))))))) fun K hK => ?_
     repeat' (first | (refine hK _ ?_; clear hK K) | ((first | refine xG_intro (fun hg => ?_) (fun hg => ?_) | refine fun (hg : (_ : Prop)) => ?_) <;> ((try simp only [BQ] at hg); try (exfalso; omega))) | refine And.intro ?_ ?_ | exact cl | exact hs1 | exact hs2 | refine one_take ?_ _ | refine one_drop ?_ _ | (refine st ?_; try simp only [encCert, zeroCert]) | simp only [encCert, zeroCert])
     all_goals
     refine sZ [6] (fun P S K => XvLoad P 31 (M S.hp S.nx) (S.get 7) (fun r0 _ => XvStore P 31 (M S.hp S.nx) (S.get 6) r0 (fun r1 ef1 => K ⟨[(6, S.get 6)], (Eff.hp ef1 S.nx S.hp), (S.nx + ef1.add.length), S.gh⟩))) fun K hK => ?_
     repeat' (first | (refine hK _ ?_; clear hK K) | ((first | refine xG_intro (fun hg => ?_) (fun hg => ?_) | refine fun (hg : (_ : Prop)) => ?_) <;> ((try simp only [BQ] at hg); try (exfalso; omega))) | refine And.intro ?_ ?_ | exact cl | exact hs1 | exact hs2 | refine one_take ?_ _ | refine one_drop ?_ _ | (refine st ?_; try simp only [encCert, zeroCert]) | simp only [encCert, zeroCert])
     all_goals
     refine Tri.ret ?_
     show ResR _ _ _ _ _
     first
       | rw [torn_0 (by assumption), hne]
       | rw [torn_1 (by assumption), hne]
       | rw [torn_2 (by assumption), hne]
       | rw [torn_3 (by assumption)]
       | rw [torn_4 (by assumption)]
       | rw [torn_5 (by assumption) (by assumption) (by assumption) (by assumption) (by assumption), hne]
     all_goals refine ResR.cell1 (PV.agg [_, _, _]) rfl ?_ (pure_cert _)
     first
       | (have hq1 : pe.length = 1 := (by omega); obtain ⟨y, rfl⟩ : ∃ y, pe = [y] := List.length_eq_one_iff.1 hq1; simp [-List.map_map, sealed, St.obj, lk, encCert, ints, map_sealed_encI, take_map_len, encI, PV.ren, renL]; done)
       | (have hq1 : pe.length = 0 := (by omega); obtain rfl : pe = [] := List.eq_nil_of_length_eq_zero hq1; simp [-List.map_map, sealed, St.obj, lk, encCert, ints, map_sealed_encI, take_map_len, encI, PV.ren, renL]; done)
       | (have hq1 : so.length = 0 := (by omega); obtain rfl : so = [] := List.eq_nil_of_length_eq_zero hq1; simp [-List.map_map, sealed, St.obj, lk, encCert, ints, map_sealed_encI, take_map_len, encI, PV.ren, renL]; done)
       | (obtain ⟨y, r, rfl⟩ : ∃ y r, pe = y :: r := (by cases pe with | nil => simp at * | cons y r => exact ⟨y, r, rfl⟩); simp [-List.map_map, sealed, St.obj, lk, encCert, ints, map_sealed_encI, take_map_len, Nat.add_comm 1]; done)
       | (simp [-List.map_map, sealed, St.obj, lk, encCert, ints, map_sealed_encI, take_map_len]; done)
       | (simp [-List.map_map, sealed, St.obj, lk, encCert, ints, map_sealed_encI, take_map_len, List.take_of_length_le, encI]; done)
       | (simp [sealed, St.obj, lk, encCert, ints, List.take_of_length_le, encI, PV.ren, renL]; done)
    ·try (cases h38; done)
     all_goals (try simp only [CQ] at h38)
     all_goals
     refine sZ [2, 6, 7, 8, 24, 46] (fun P S K => XvBinOV P .eql 3 (.const (.int .i64 2)) (S.get 24) (.atom (.int .i64 2)) (fun r0 _ => K ⟨[(2, S.get 2), (6, S.get 6), (7, S.get 7), (8, S.get 8), (24, S.get 24), (46, r0)], S.hp, S.nx, S.gh⟩)) fun K hK => ?_
     repeat' (first | (refine hK _ ?_; clear hK K) | ((first | refine xG_intro (fun hg => ?_) (fun hg => ?_) | refine fun (hg : (_ : Prop)) => ?_) <;> ((try simp only [BQ] at hg); try (exfalso; omega))) | refine And.intro ?_ ?_ | exact cl | exact hs1 | exact hs2 | refine one_take ?_ _ | refine one_drop ?_ _ | (refine st ?_; try simp only [encCert, zeroCert]) | simp only [encCert, zeroCert])
     all_goals
     refine Tri.cond rfl (fun h46 => ?_) (fun h46 => ?_)
     ·try (cases h46; done)
      all_goals (try simp only [CQ] at h46)
      all_goals
      refine rZ [6, 7] (fun P S K => XvFieldAddr P 31 0 (S.get 7) (fun r0 _ => XvLoad P 22 (M S.hp S.nx) r0 (fun r1 _ => XvBuildS P 22 1 S.nx [(0, (S.get 8))] (fun r3 ef3 => (22 = 22 ∧ XvAppend P 22 (M (Eff.hp ef3 S.nx S.hp) (S.nx + ef3.add.length)) r1 r3 (fun r4 ef4 => XvFieldAddr P 31 0 (S.get 7) (fun r5 _ => XvStore P 22 (M (Eff.hp ef4 (S.nx + ef3.add.length) (Eff.hp ef3 S.nx S.hp)) ((S.nx + ef3.add.length) + ef4.add.length)) r5 r4 (fun r6 ef6 => K ⟨[(6, S.get 6), (7, S.get 7)], (Eff.hp ef6 ((S.nx + ef3.add.length) + ef4.add.length) (Eff.hp ef4 (S.nx + ef3.add.length) (Eff.hp ef3 S.nx S.hp))), (((S.nx + ef3.add.length) + ef4.add.length) + ef6.add.length), S.gh⟩)))))))) fun K hK => ?_
      repeat' (first | (refine hK _ ?_; clear hK K) | ((first | refine xG_intro (fun hg => ?_) (fun hg => ?_) | refine fun (hg : (_ : Prop)) => ?_) <;> ((try simp only [BQ] at hg); try (exfalso; omega))) | refine And.intro ?_ ?_ | exact cl | exact hs1 | exact hs2 | refine one_take ?_ _ | refine one_drop ?_ _ | (refine st ?_; try simp only [encCert, zeroCert]) | simp only [encCert, zeroCert])
      all_goals
      refine sZ [6] (fun P S K => XvLoad P 31 (M S.hp S.nx) (S.get 7) (fun r0 _ => XvStore P 31 (M S.hp S.nx) (S.get 6) r0 (fun r1 ef1 => K ⟨[(6, S.get 6)], (Eff.hp ef1 S.nx S.hp), (S.nx + ef1.add.length), S.gh⟩))) fun K hK => ?_
      repeat' (first | (refine hK _ ?_; clear hK K) | ((first | refine xG_intro (fun hg => ?_) (fun hg => ?_) | refine fun (hg : (_ : Prop)) => ?_) <;> ((try simp only [BQ] at hg); try (exfalso; omega))) | refine And.intro ?_ ?_ | exact cl | exact hs1 | exact hs2 | refine one_take ?_ _ | refine one_drop ?_ _ | (refine st ?_; try simp only [encCert, zeroCert]) | simp only [encCert, zeroCert])
      all_goals
      refine Tri.ret ?_
      show ResR _ _ _ _ _
      first
        | rw [torn_0 (by assumption), hne]
        | rw [torn_1 (by assumption), hne]
        | rw [torn_2 (by assumption), hne]
        | rw [torn_3 (by assumption)]
        | rw [torn_4 (by assumption)]
        | rw [torn_5 (by assumption) (by assumption) (by assumption) (by assumption) (by assumption), hne]
      all_goals refine ResR.cell1 (PV.agg [_, _, _]) rfl ?_ (pure_cert _)
      first
        | (have hq1 : pe.length = 1 := (by omega); obtain ⟨y, rfl⟩ : ∃ y, pe = [y] := List.length_eq_one_iff.1 hq1; simp [-List.map_map, sealed, St.obj, lk, encCert, ints, map_sealed_encI, take_map_len, encI, PV.ren, renL]; done)
        | (have hq1 : pe.length = 0 := (by omega); obtain rfl : pe = [] := List.eq_nil_of_length_eq_zero hq1; simp [-List.map_map, sealed, St.obj, lk, encCert, ints, map_sealed_encI, take_map_len, encI, PV.ren, renL]; done)
        | (have hq1 : so.length = 0 := (by omega); obtain rfl : so = [] := List.eq_nil_of_length_eq_zero hq1; simp [-List.map_map, sealed, St.obj, lk, encCert, ints, map_sealed_encI, take_map_len, encI, PV.ren, renL]; done)
        | (obtain ⟨y, r, rfl⟩ : ∃ y r, pe = y :: r := (by cases pe with | nil => simp at * | cons y r => exact ⟨y, r, rfl⟩); simp [-List.map_map, sealed, St.obj, lk, encCert, ints, map_sealed_encI, take_map_len, Nat.add_comm 1]; done)
        | (simp [-List.map_map, sealed, St.obj, lk, encCert, ints, map_sealed_encI, take_map_len]; done)
        | (simp [-List.map_map, sealed, St.obj, lk, encCert, ints, map_sealed_encI, take_map_len, List.take_of_length_le, encI]; done)
        | (simp [sealed, St.obj, lk, encCert, ints, List.take_of_length_le, encI, PV.ren, renL]; done)
     ·try (cases h46; done)
      all_goals (try simp only [CQ] at h46)
      all_goals
      refine sZ [2, 6, 7, 8, 24, 54] (fun P S K => XvBinOV P .eql 3 (.const (.int .i64 3)) (S.get 24) (.atom (.int .i64 3)) (fun r0 _ => K ⟨[(2, S.get 2), (6, S.get 6), (7, S.get 7), (8, S.get 8), (24, S.get 24), (54, r0)], S.hp, S.nx, S.gh⟩)) fun K hK => ?_
      repeat' (first | (refine hK _ ?_; clear hK K) | ((first | refine xG_intro (fun hg => ?_) (fun hg => ?_) | refine fun (hg : (_ : Prop)) => ?_) <;> ((try simp only [BQ] at hg); try (exfalso; omega))) | refine And.intro ?_ ?_ | exact cl | exact hs1 | exact hs2 | refine one_take ?_ _ | refine one_drop ?_ _ | (refine st ?_; try simp only [encCert, zeroCert]) | simp only [encCert, zeroCert])
      all_goals
      refine Tri.cond rfl (fun h54 => ?_) (fun h54 => ?_)
      ·try (cases h54; done)
       all_goals (try simp only [CQ] at h54)
       all_goals
       refine sZ [6, 7, 59] (fun P S K => XvFieldAddr P 31 1 (S.get 7) (fun r0 _ => XvLoad P 22 (M S.hp S.nx) r0 (fun r1 _ => XvLen P 22 r1 (fun r2 _ => XvBinOV P .gtr 3 (.const (.int .i64 0)) r2 (.atom (.int .i64 0)) (fun r3 _ => K ⟨[(6, S.get 6), (7, S.get 7), (59, r3)], S.hp, S.nx, S.gh⟩))))) fun K hK => ?_
       repeat' (first | (refine hK _ ?_; clear hK K) | ((first | refine xG_intro (fun hg => ?_) (fun hg => ?_) | refine fun (hg : (_ : Prop)) => ?_) <;> ((try simp only [BQ] at hg); try (exfalso; omega))) | refine And.intro ?_ ?_ | exact cl | exact hs1 | exact hs2 | refine one_take ?_ _ | refine one_drop ?_ _ | (refine st ?_; try simp only [encCert, zeroCert]) | simp only [encCert, zeroCert])
       all_goals
       refine Tri.cond rfl (fun h59 => ?_) (fun h59 => ?_)
       ·try (cases h59; done)
        all_goals (try simp only [CQ] at h59)
        all_goals
        refine rZ [6, 7] (fun P S K => XvFieldAddr P 31 1 (S.get 7) (fun r0 _ => XvLoad P 22 (M S.hp S.nx) r0 (fun r1 _ => XvSliceV P 22 r1 (some (.atom (.int .i64 1))) none (fun r2 _ => XvFieldAddr P 31 1 (S.get 7) (fun r3 _ => XvStore P 22 (M S.hp S.nx) r3 r2 (fun r4 ef4 => K ⟨[(6, S.get 6), (7, S.get 7)], (Eff.hp ef4 S.nx S.hp), (S.nx + ef4.add.length), S.gh⟩)))))) fun K hK => ?_
        repeat' (first | (refine hK _ ?_; clear hK K) | ((first | refine xG_intro (fun hg => ?_) (fun hg => ?_) | refine fun (hg : (_ : Prop)) => ?_) <;> ((try simp only [BQ] at hg); try (exfalso; omega))) | refine And.intro ?_ ?_ | exact cl | exact hs1 | exact hs2 | refine one_take ?_ _ | refine one_drop ?_ _ | (refine st ?_; try simp only [encCert, zeroCert]) | simp only [encCert, zeroCert])
        all_goals
        refine sZ [6] (fun P S K => XvLoad P 31 (M S.hp S.nx) (S.get 7) (fun r0 _ => XvStore P 31 (M S.hp S.nx) (S.get 6) r0 (fun r1 ef1 => K ⟨[(6, S.get 6)], (Eff.hp ef1 S.nx S.hp), (S.nx + ef1.add.length), S.gh⟩))) fun K hK => ?_
        repeat' (first | (refine hK _ ?_; clear hK K) | ((first | refine xG_intro (fun hg => ?_) (fun hg => ?_) | refine fun (hg : (_ : Prop)) => ?_) <;> ((try simp only [BQ] at hg); try (exfalso; omega))) | refine And.intro ?_ ?_ | exact cl | exact hs1 | exact hs2 | refine one_take ?_ _ | refine one_drop ?_ _ | (refine st ?_; try simp only [encCert, zeroCert]) | simp only [encCert, zeroCert])
        all_goals
        refine Tri.ret ?_
        show ResR _ _ _ _ _
        first
          | rw [torn_0 (by assumption), hne]
          | rw [torn_1 (by assumption), hne]
          | rw [torn_2 (by assumption), hne]
          | rw [torn_3 (by assumption)]
          | rw [torn_4 (by assumption)]
          | rw [torn_5 (by assumption) (by assumption) (by assumption) (by assumption) (by assumption), hne]
        all_goals refine ResR.cell1 (PV.agg [_, _, _]) rfl ?_ (pure_cert _)
        first
          | (have hq1 : pe.length = 1 := (by omega); obtain ⟨y, rfl⟩ : ∃ y, pe = [y] := List.length_eq_one_iff.1 hq1; simp [-List.map_map, sealed, St.obj, lk, encCert, ints, map_sealed_encI, take_map_len, encI, PV.ren, renL]; done)
          | (have hq1 : pe.length = 0 := (by omega); obtain rfl : pe = [] := List.eq_nil_of_length_eq_zero hq1; simp [-List.map_map, sealed, St.obj, lk, encCert, ints, map_sealed_encI, take_map_len, encI, PV.ren, renL]; done)
          | (have hq1 : so.length = 0 := (by omega); obtain rfl : so = [] := List.eq_nil_of_length_eq_zero hq1; simp [-List.map_map, sealed, St.obj, lk, encCert, ints, map_sealed_encI, take_map_len, encI, PV.ren, renL]; done)
          | (obtain ⟨y, r, rfl⟩ : ∃ y r, pe = y :: r := (by cases pe with | nil => simp at * | cons y r => exact ⟨y, r, rfl⟩); simp [-List.map_map, sealed, St.obj, lk, encCert, ints, map_sealed_encI, take_map_len, Nat.add_comm 1]; done)
          | (simp [-List.map_map, sealed, St.obj, lk, encCert, ints, map_sealed_encI, take_map_len]; done)
          | (simp [-List.map_map, sealed, St.obj, lk, encCert, ints, map_sealed_encI, take_map_len, List.take_of_length_le, encI]; done)
          | (simp [sealed, St.obj, lk, encCert, ints, List.take_of_length_le, encI, PV.ren, renL]; done)
       ·try (cases h59; done)
        all_goals (try simp only [CQ] at h59)
        all_goals
        refine Tri.skip ?_
        refine sZ [6] (fun P S K => XvLoad P 31 (M S.hp S.nx) (S.get 7) (fun r0 _ => XvStore P 31 (M S.hp S.nx) (S.get 6) r0 (fun r1 ef1 => K ⟨[(6, S.get 6)], (Eff.hp ef1 S.nx S.hp), (S.nx + ef1.add.length), S.gh⟩))) fun K hK => ?_
        repeat' (first | (refine hK _ ?_; clear hK K) | ((first | refine xG_intro (fun hg => ?_) (fun hg => ?_) | refine fun (hg : (_ : Prop)) => ?_) <;> ((try simp only [BQ] at hg); try (exfalso; omega))) | refine And.intro ?_ ?_ | exact cl | exact hs1 | exact hs2 | refine one_take ?_ _ | refine one_drop ?_ _ | (refine st ?_; try simp only [encCert, zeroCert]) | simp only [encCert, zeroCert])
        all_goals
        refine Tri.ret ?_
        show ResR _ _ _ _ _
        first
          | rw [torn_0 (by assumption), hne]
          | rw [torn_1 (by assumption), hne]
          | rw [torn_2 (by assumption), hne]
          | rw [torn_3 (by assumption)]
          | rw [torn_4 (by assumption)]
          | rw [torn_5 (by assumption) (by assumption) (by assumption) (by assumption) (by assumption), hne]
        all_goals refine ResR.cell1 (PV.agg [_, _, _]) rfl ?_ (pure_cert _)
        first
          | (have hq1 : pe.length = 1 := (by omega); obtain ⟨y, rfl⟩ : ∃ y, pe = [y] := List.length_eq_one_iff.1 hq1; simp [-List.map_map, sealed, St.obj, lk, encCert, ints, map_sealed_encI, take_map_len, encI, PV.ren, renL]; done)
          | (have hq1 : pe.length = 0 := (by omega); obtain rfl : pe = [] := List.eq_nil_of_length_eq_zero hq1; simp [-List.map_map, sealed, St.obj, lk, encCert, ints, map_sealed_encI, take_map_len, encI, PV.ren, renL]; done)
          | (have hq1 : so.length = 0 := (by omega); obtain rfl : so = [] := List.eq_nil_of_length_eq_zero hq1; simp [-List.map_map, sealed, St.obj, lk, encCert, ints, map_sealed_encI, take_map_len, encI, PV.ren, renL]; done)
          | (obtain ⟨y, r, rfl⟩ : ∃ y r, pe = y :: r := (by cases pe with | nil => simp at * | cons y r => exact ⟨y, r, rfl⟩); simp [-List.map_map, sealed, St.obj, lk, encCert, ints, map_sealed_encI, take_map_len, Nat.add_comm 1]; done)
          | (simp [-List.map_map, sealed, St.obj, lk, encCert, ints, map_sealed_encI, take_map_len]; done)
          | (simp [-List.map_map, sealed, St.obj, lk, encCert, ints, map_sealed_encI, take_map_len, List.take_of_length_le, encI]; done)
          | (simp [sealed, St.obj, lk, encCert, ints, List.take_of_length_le, encI, PV.ren, renL]; done)
      ·try (cases h54; done)
       all_goals (try simp only [CQ] at h54)
       all_goals
       refine sZ [2, 6, 7, 8, 64] (fun P S K => XvBinOV P .eql 3 (.const (.int .i64 4)) (S.get 24) (.atom (.int .i64 4)) (fun r0 _ => K ⟨[(2, S.get 2), (6, S.get 6), (7, S.get 7), (8, S.get 8), (64, r0)], S.hp, S.nx, S.gh⟩)) fun K hK => ?_
       repeat' (first | (refine hK _ ?_; clear hK K) | ((first | refine xG_intro (fun hg => ?_) (fun hg => ?_) | refine fun (hg : (_ : Prop)) => ?_) <;> ((try simp only [BQ] at hg); try (exfalso; omega))) | refine And.intro ?_ ?_ | exact cl | exact hs1 | exact hs2 | refine one_take ?_ _ | refine one_drop ?_ _ | (refine st ?_; try simp only [encCert, zeroCert]) | simp only [encCert, zeroCert])
       all_goals
       refine Tri.cond rfl (fun h64 => ?_) (fun h64 => ?_)
       ·try (cases h64; done)
        all_goals (try simp only [CQ] at h64)
        all_goals
        refine sZ [6, 7, 69] (fun P S K => XvFieldAddr P 31 0 (S.get 7) (fun r0 _ => XvLoad P 22 (M S.hp S.nx) r0 (fun r1 _ => XvLen P 22 r1 (fun r2 _ => XvBinOV P .gtr 3 (.const (.int .i64 0)) r2 (.atom (.int .i64 0)) (fun r3 _ => K ⟨[(6, S.get 6), (7, S.get 7), (69, r3)], S.hp, S.nx, S.gh⟩))))) fun K hK => ?_
        repeat' (first | (refine hK _ ?_; clear hK K) | ((first | refine xG_intro (fun hg => ?_) (fun hg => ?_) | refine fun (hg : (_ : Prop)) => ?_) <;> ((try simp only [BQ] at hg); try (exfalso; omega))) | refine And.intro ?_ ?_ | exact cl | exact hs1 | exact hs2 | refine one_take ?_ _ | refine one_drop ?_ _ | (refine st ?_; try simp only [encCert, zeroCert]) | simp only [encCert, zeroCert])
        all_goals
        refine Tri.cond rfl (fun h69 => ?_) (fun h69 => ?_)
        ·try (cases h69; done)
         all_goals (try simp only [CQ] at h69)
         all_goals
         have hs1 : (0 : Int) ≤ (so.length : Int) - 1 := by omega
         have hs2 : (so.length : Int) - 1 ≤ so.length := by omega
         refine rZ [6, 7] (fun P S K => XvFieldAddr P 31 0 (S.get 7) (fun r0 _ => XvLoad P 22 (M S.hp S.nx) r0 (fun r1 _ => XvFieldAddr P 31 0 (S.get 7) (fun r2 _ => XvLoad P 22 (M S.hp S.nx) r2 (fun r3 _ => XvLen P 22 r3 (fun r4 _ => XvBinOV P .sub 3 (.const (.int .i64 1)) r4 (.atom (.int .i64 1)) (fun r5 _ => XvSliceV P 22 r1 none (some r5) (fun r6 _ => XvFieldAddr P 31 0 (S.get 7) (fun r7 _ => XvStore P 22 (M S.hp S.nx) r7 r6 (fun r8 ef8 => K ⟨[(6, S.get 6), (7, S.get 7)], (Eff.hp ef8 S.nx S.hp), (S.nx + ef8.add.length), S.gh⟩)))))))))) fun K hK => ?_
         repeat' (first | (refine hK _ ?_; clear hK K) | ((first | refine xG_intro (fun hg => ?_) (fun hg => ?_) | refine fun (hg : (_ : Prop)) => ?_) <;> ((try simp only [BQ] at hg); try (exfalso; omega))) | refine And.intro ?_ ?_ | exact cl | exact hs1 | exact hs2 | refine one_take ?_ _ | refine one_drop ?_ _ | (refine st ?_; try simp only [encCert, zeroCert, wrap_id (x := (so.length : Int) - 1) (by omega) (by omega)]) | simp only [encCert, zeroCert, wrap_id (x := (so.length : Int) - 1) (by omega) (by omega)])
         all_goals try simp (disch := omega) only [wrap_id, wrap8_id]
         all_goals
         refine sZ [6] (fun P S K => XvLoad P 31 (M S.hp S.nx) (S.get 7) (fun r0 _ => XvStore P 31 (M S.hp S.nx) (S.get 6) r0 (fun r1 ef1 => K ⟨[(6, S.get 6)], (Eff.hp ef1 S.nx S.hp), (S.nx + ef1.add.length), S.gh⟩))) fun K hK => ?_
         repeat' (first | (refine hK _ ?_; clear hK K) | ((first | refine xG_intro (fun hg => ?_) (fun hg => ?_) | refine fun (hg : (_ : Prop)) => ?_) <;> ((try simp only [BQ] at hg); try (exfalso; omega))) | refine And.intro ?_ ?_ | exact cl | exact hs1 | exact hs2 | refine one_take ?_ _ | refine one_drop ?_ _ | (refine st ?_; try simp only [encCert, zeroCert]) | simp only [encCert, zeroCert])
         all_goals
         refine Tri.ret ?_
         show ResR _ _ _ _ _
         first
           | rw [torn_0 (by assumption), hne]
           | rw [torn_1 (by assumption), hne]
           | rw [torn_2 (by assumption), hne]
           | rw [torn_3 (by assumption)]
           | rw [torn_4 (by assumption)]
           | rw [torn_5 (by assumption) (by assumption) (by assumption) (by assumption) (by assumption), hne]
         all_goals refine ResR.cell1 (PV.agg [_, _, _]) rfl ?_ (pure_cert _)
         first
           | (have hq1 : pe.length = 1 := (by omega); obtain ⟨y, rfl⟩ : ∃ y, pe = [y] := List.length_eq_one_iff.1 hq1; simp [-List.map_map, sealed, St.obj, lk, encCert, ints, map_sealed_encI, take_map_len, encI, PV.ren, renL]; done)
           | (have hq1 : pe.length = 0 := (by omega); obtain rfl : pe = [] := List.eq_nil_of_length_eq_zero hq1; simp [-List.map_map, sealed, St.obj, lk, encCert, ints, map_sealed_encI, take_map_len, encI, PV.ren, renL]; done)
           | (have hq1 : so.length = 0 := (by omega); obtain rfl : so = [] := List.eq_nil_of_length_eq_zero hq1; simp [-List.map_map, sealed, St.obj, lk, encCert, ints, map_sealed_encI, take_map_len, encI, PV.ren, renL]; done)
           | (obtain ⟨y, r, rfl⟩ : ∃ y r, pe = y :: r := (by cases pe with | nil => simp at * | cons y r => exact ⟨y, r, rfl⟩); simp [-List.map_map, sealed, St.obj, lk, encCert, ints, map_sealed_encI, take_map_len, Nat.add_comm 1]; done)
           | (simp [-List.map_map, sealed, St.obj, lk, encCert, ints, map_sealed_encI, take_map_len]; done)
           | (simp [-List.map_map, sealed, St.obj, lk, encCert, ints, map_sealed_encI, take_map_len, List.take_of_length_le, encI]; done)
           | (simp [sealed, St.obj, lk, encCert, ints, List.take_of_length_le, encI, PV.ren, renL]; done)
        ·try (cases h69; done)
         all_goals (try simp only [CQ] at h69)
         all_goals
         refine Tri.skip ?_
         refine sZ [6] (fun P S K => XvLoad P 31 (M S.hp S.nx) (S.get 7) (fun r0 _ => XvStore P 31 (M S.hp S.nx) (S.get 6) r0 (fun r1 ef1 => K ⟨[(6, S.get 6)], (Eff.hp ef1 S.nx S.hp), (S.nx + ef1.add.length), S.gh⟩))) fun K hK => ?_
         repeat' (first | (refine hK _ ?_; clear hK K) | ((first | refine xG_intro (fun hg => ?_) (fun hg => ?_) | refine fun (hg : (_ : Prop)) => ?_) <;> ((try simp only [BQ] at hg); try (exfalso; omega))) | refine And.intro ?_ ?_ | exact cl | exact hs1 | exact hs2 | refine one_take ?_ _ | refine one_drop ?_ _ | (refine st ?_; try simp only [encCert, zeroCert]) | simp only [encCert, zeroCert])
         all_goals
         refine Tri.ret ?_
         show ResR _ _ _ _ _
         first
           | rw [torn_0 (by assumption), hne]
           | rw [torn_1 (by assumption), hne]
           | rw [torn_2 (by assumption), hne]
           | rw [torn_3 (by assumption)]
           | rw [torn_4 (by assumption)]
           | rw [torn_5 (by assumption) (by assumption) (by assumption) (by assumption) (by assumption), hne]
         all_goals refine ResR.cell1 (PV.agg [_, _, _]) rfl ?_ (pure_cert _)
         first
           | (have hq1 : pe.length = 1 := (by omega); obtain ⟨y, rfl⟩ : ∃ y, pe = [y] := List.length_eq_one_iff.1 hq1; simp [-List.map_map, sealed, St.obj, lk, encCert, ints, map_sealed_encI, take_map_len, encI, PV.ren, renL]; done)
           | (have hq1 : pe.length = 0 := (by omega); obtain rfl : pe = [] := List.eq_nil_of_length_eq_zero hq1; simp [-List.map_map, sealed, St.obj, lk, encCert, ints, map_sealed_encI, take_map_len, encI, PV.ren, renL]; done)
           | (have hq1 : so.length = 0 := (by omega); obtain rfl : so = [] := List.eq_nil_of_length_eq_zero hq1; simp [-List.map_map, sealed, St.obj, lk, encCert, ints, map_sealed_encI, take_map_len, encI, PV.ren, renL]; done)
           | (obtain ⟨y, r, rfl⟩ : ∃ y r, pe = y :: r := (by cases pe with | nil => simp at * | cons y r => exact ⟨y, r, rfl⟩); simp [-List.map_map, sealed, St.obj, lk, encCert, ints, map_sealed_encI, take_map_len, Nat.add_comm 1]; done)
           | (simp [-List.map_map, sealed, St.obj, lk, encCert, ints, map_sealed_encI, take_map_len]; done)
           | (simp [-List.map_map, sealed, St.obj, lk, encCert, ints, map_sealed_encI, take_map_len, List.take_of_length_le, encI]; done)
           | (simp [sealed, St.obj, lk, encCert, ints, List.take_of_length_le, encI, PV.ren, renL]; done)
       ·try (cases h64; done)
        all_goals (try simp only [CQ] at h64)
        all_goals
        refine rZ [6, 7] (fun P S K => XvBuildS P 22 1 S.nx [(0, (S.get 8))] (fun r1 ef1 => XvBinOV P .rem 3 (.const (.int .i64 12)) (S.get 2) (.atom (.int .i64 12)) (fun r3 _ => XvBuild P 31 [(0, r1), (2, r3)] (fun r4 _ => XvStore P 31 (M (Eff.hp ef1 S.nx S.hp) (S.nx + ef1.add.length)) (S.get 7) r4 (fun r5 ef5 => K ⟨[(6, S.get 6), (7, S.get 7)], (Eff.hp ef5 (S.nx + ef1.add.length) (Eff.hp ef1 S.nx S.hp)), ((S.nx + ef1.add.length) + ef5.add.length), S.gh⟩))))) fun K hK => ?_
        repeat' (first | (refine hK _ ?_; clear hK K) | ((first | refine xG_intro (fun hg => ?_) (fun hg => ?_) | refine fun (hg : (_ : Prop)) => ?_) <;> ((try simp only [BQ] at hg); try (exfalso; omega))) | refine And.intro ?_ ?_ | exact cl | exact hs1 | exact hs2 | refine one_take ?_ _ | refine one_drop ?_ _ | (refine st ?_; try simp only [encCert, zeroCert]) | simp only [encCert, zeroCert])
        refine Tri.nilF 1 1 1 3 _ rfl rfl ?_
        all_goals
        refine sZ [6] (fun P S K => XvLoad P 31 (M S.hp S.nx) (S.get 7) (fun r0 _ => XvStore P 31 (M S.hp S.nx) (S.get 6) r0 (fun r1 ef1 => K ⟨[(6, S.get 6)], (Eff.hp ef1 S.nx S.hp), (S.nx + ef1.add.length), S.gh⟩))) fun K hK => ?_
        repeat' (first | (refine hK _ ?_; clear hK K) | ((first | refine xG_intro (fun hg => ?_) (fun hg => ?_) | refine fun (hg : (_ : Prop)) => ?_) <;> ((try simp only [BQ] at hg); try (exfalso; omega))) | refine And.intro ?_ ?_ | exact cl | exact hs1 | exact hs2 | refine one_take ?_ _ | refine one_drop ?_ _ | (refine st ?_; try simp only [encCert, zeroCert]) | simp only [encCert, zeroCert])
        all_goals
        refine Tri.ret ?_
        show ResR _ _ _ _ _
        first
          | rw [torn_0 (by assumption), hne]
          | rw [torn_1 (by assumption), hne]
          | rw [torn_2 (by assumption), hne]
          | rw [torn_3 (by assumption)]
          | rw [torn_4 (by assumption)]
          | rw [torn_5 (by assumption) (by assumption) (by assumption) (by assumption) (by assumption), hne]
        all_goals refine ResR.cell1 (PV.agg [_, _, _]) rfl ?_ (pure_cert _)
        first
          | (have hq1 : pe.length = 1 := (by omega); obtain ⟨y, rfl⟩ : ∃ y, pe = [y] := List.length_eq_one_iff.1 hq1; simp [-List.map_map, sealed, St.obj, lk, encCert, ints, map_sealed_encI, take_map_len, encI, PV.ren, renL]; done)
          | (have hq1 : pe.length = 0 := (by omega); obtain rfl : pe = [] := List.eq_nil_of_length_eq_zero hq1; simp [-List.map_map, sealed, St.obj, lk, encCert, ints, map_sealed_encI, take_map_len, encI, PV.ren, renL]; done)
          | (have hq1 : so.length = 0 := (by omega); obtain rfl : so = [] := List.eq_nil_of_length_eq_zero hq1; simp [-List.map_map, sealed, St.obj, lk, encCert, ints, map_sealed_encI, take_map_len, encI, PV.ren, renL]; done)
          | (obtain ⟨y, r, rfl⟩ : ∃ y r, pe = y :: r := (by cases pe with | nil => simp at * | cons y r => exact ⟨y, r, rfl⟩); simp [-List.map_map, sealed, St.obj, lk, encCert, ints, map_sealed_encI, take_map_len, Nat.add_comm 1]; done)
          | (simp [-List.map_map, sealed, St.obj, lk, encCert, ints, map_sealed_encI, take_map_len]; done)
          | (simp [-List.map_map, sealed, St.obj, lk, encCert, ints, map_sealed_encI, take_map_len, List.take_of_length_le, encI]; done)
          | (simp [sealed, St.obj, lk, encCert, ints, List.take_of_length_le, encI, PV.ren, renL]; done)
end Go.Proofs.Ytcdeilgijleoaaa
