/-
  Plain: no assignment of few passages has a lesser greatest load than that of Find.
-/
import Derived.Test.YtcdeilgijleoaaaXB49
import Derived.Test.YtcdeilgijleoaaaXB50
import Derived.Test.YtcdeilgijleoaaaXA1
import Derived.Test.YtcdeilgijleoaaaXB35
import Derived.Test.YtcdeilgijleoaaaXB22
import Derived.ProofKit
import Derived.SliceStrings
import Derived.Deep.Slices
import Derived.OpenShut
set_option linter.all false
namespace Go.Proofs.Ytcdeilgijleoaaa
open Go Go.RowKit
set_option maxRecDepth 20000
theorem findN_eq {c : CaseD} (hv : validC c = 0) : findN c = greatest (loadsR c (findP c)) := if_neg (by omega)
theorem findC_eq {c : CaseD} (hv : validC c = 0) : findC c = bestS c := if_neg (by omega)
theorem run_small {c : CaseD} (hG : Good c) {ps : List (Int × Int)} (hn : ps.length ≤ 64) : greatest (runL c 0 (zerosL c) ps) < 1048576 := by
  have := greatest_le (l := runL c 0 (zerosL c) ps) (m := 0 + 2048 * ps.length) (by omega) fun x hx => (runL_rng hG.rng ps 0 (zerosL c) 0 (Int.le_refl _) (zeros_rng c) x hx).2
  omega
theorem find_small {c : CaseD} (hv : validC c = 0) (h6 : c.sizes.length ≤ 6) : findN c = (searchF c c.sizes.length (zerosL c) 1048576).2.1 := by
  have hG := valid_good hv
  have hP : findP c = (searchF c c.sizes.length (zerosL c) 1048576).1 := by unfold findP; rw [if_neg (by omega), if_pos h6]; rfl
  have hf := searchF_found (c := c) c.sizes.length (zerosL c) 1048576 (Nat.le_refl _) (search_good hG (by omega))
  rw [Nat.sub_self] at hf
  rw [findN_eq hv, hP, (fits_loads hG hv hf.1 hf.2.1).2, hf.2.2.1]
theorem findN_min {c : CaseD} (hv : validC c = 0) (h6 : c.sizes.length ≤ 6) {ps : List (Int × Int)} (hlen : ps.length = c.sizes.length) (hf : fitsL c 0 ps) : findN c ≤ greatest (runL c 0 (zerosL c) ps) := by
  have hG := valid_good hv
  have hs := run_small hG (ps := ps) (by omega)
  have := (searchF_min (by have := hG.lo; omega) hG.pos c.sizes.length (zerosL c) 1048576 ps (zeros_ok c) (Nat.le_refl _) hlen (by rw [Nat.sub_self]; exact hf) (by rw [Nat.sub_self]; exact hs)).2
  rw [Nat.sub_self] at this
  rw [find_small hv h6]; exact this
theorem check_best {c : CaseD} (hv : validC c = 0) : checkE c (findP c) (findC c) = 0 ∧ checkN c (findP c) (findC c) = findN c - (findC c).least ∧ 0 ≤ findN c - (findC c).least := by
  have hl := find_loads hv
  have hb := best_bound hv
  rw [← findC_eq hv] at hb
  have h1 := check_ok (x := findC c) hl hb.1
  have h2 := weak hl hb.1
  rw [findN_eq hv]
  rw [hb.2] at h1 h2
  exact ⟨h1.2, h1.1, by omega⟩
theorem check_any {c : CaseD} {ps : List (Int × Int)} (hl : loadsE c ps = 0) (x : CertD) : checkE c ps x = boundE c x ∧ (boundE c x = 0 → 0 ≤ checkN c ps x) := by
  have e : checkE c ps x = boundE c x := if_neg (by omega)
  refine ⟨e, fun hb => ?_⟩
  have := weak hl hb
  rw [(check_ok hl hb).1]; omega
set_option maxHeartbeats 2000000
theorem model_pure (x : CertD) : Pure Try.prog 25 [encCert x] (encCert x) [] := by
  refine Pure.introR (rv := [.cell 2 31]) Try.func25 (by kernel_rfl) rfl rfl rfl (Nat.le_of_ble_eq_true rfl) ?_ ?_
  · simp [pure_cert, PV.pure, pureL]
  refine sZ [1, 2] (fun P S K => XvBox S.nx (S.get 0) (fun r0 ef0 => XvAlloc P 31 (S.nx + ef0.add.length) (fun r1 ef1 => K ⟨[(1, r0), (2, r1)], (Eff.hp ef1 (S.nx + ef0.add.length) (Eff.hp ef0 S.nx S.hp)), ((S.nx + ef0.add.length) + ef1.add.length), S.gh⟩))) fun K hK => ?_
  repeat' (first | (refine hK _ ?_; clear hK K) | refine And.intro ?_ ?_ | exact cl | (refine st ?_; try simp only [encCert]) | simp only [encCert])
  all_goals
  refine sZ [2] (fun P S K => XvFieldAddr P 47 0 (S.get 1) (fun r0 _ => XvLoad P 22 (M S.hp S.nx) r0 (fun r1 _ => XvFieldAddr P 47 1 (S.get 1) (fun r2 _ => XvLoad P 22 (M S.hp S.nx) r2 (fun r3 _ => XvFieldAddr P 47 2 (S.get 1) (fun r4 _ => XvLoad P 3 (M S.hp S.nx) r4 (fun r5 _ => XvBuild P 31 [(0, r1), (1, r3), (2, r5)] (fun r6 _ => XvStore P 31 (M S.hp S.nx) (S.get 2) r6 (fun r7 ef7 => K ⟨[(2, S.get 2)], (Eff.hp ef7 S.nx S.hp), (S.nx + ef7.add.length), S.gh⟩))))))))) fun K hK => ?_
  repeat' (first | (refine hK _ ?_; clear hK K) | refine And.intro ?_ ?_ | exact cl | (refine st ?_; try simp only [encCert]) | simp only [encCert])
  all_goals
  refine Tri.ret ?_
  show ResR _ _ _ _ _
  refine ResR.cell1 (encCert x) rfl ?_ (pure_cert _)
  exact sealed_pure _ _ _ (pure_cert _)
def Fit (c : CaseD) : Prop := Held c ∧ (validC c = 0 → Tail c)
theorem tail_short {c : CaseD} (h : c.sizes.length ≤ 20) : Tail c := fun j h1 h2 => by omega
theorem made_short (l : List Int) : (madeC l).sizes.length ≤ 12 := by rw [made_sizes]; have := madeM_rng l; omega
theorem made_fit (l : List Int) : Fit (madeC l) := ⟨made_held l, fun _ => tail_short (by have := made_short l; omega)⟩
theorem leqB57 {p : Prop} (h : p := by (refine ⟨4, ?_, ?_, rfl, by simp, rfl, fun _ h _ => absurd h (Nat.not_lt_zero _)⟩ <;> (simp only [List.forall_mem_cons]; repeat' (first | refine And.intro ?_ ?_ | (intro p hp; exact absurd hp List.not_mem_nil) | rfl | exact sp (pure_case _) | exact sp (pure_pairs _) | exact sp (pure_cert _) | exact (sealed_pure _ _ _ (pure_ints _)).trans (ren_ints _ _).symm | exact (sealed_pure _ _ _ (pure_strs _)).trans (ren_strs _ _).symm | exact sp (by assumption) | (intro o ho; cases ho; refine ⟨by decide, ?_⟩; first | (refine LeqS.row rfl ?_ ?_; (next => (first | rfl | (simp only [List.map_append, List.map_cons, List.map_nil, List.append_nil, List.nil_append, List.append_assoc, List.cons_append, encI, encS, ints, strs]; done) | (simp [encI, encS, ints, strs, encP, List.map_set, encC, encCert]; done))); (next => (first | rfl | exact pureL_encI _ | exact pureL_encS _ | exact pureL_ints _ | exact pureL_strs _ | exact pureL_encP _ | exact pureL_certL _ | (simp [pureL_append, pureL_encI, pureL_encS, pureL_ints, pureL_strs, pureL, PV.pure, pure_ints, pure_strs, pure_case, pureL_encP, pure_pairs, pure_cert, pureL_certL]; done))); done) | refine ⟨_, rfl, rfl, ?_⟩) | (simp [St.born, St.known, retV, St.get, St.obj, lk, sealed, PV.ren, renL, rmap, AO.ren, ints, strs, encI, encS, map_sealed_encI, map_sealed_encS, map_sealed_ints, map_sealed_strs, map_ren_encI, map_ren_encS, map_ren_ints, map_ren_strs, renL_encI, renL_encS, renL_ints, renL_strs, ren_case, encC, pairs, renL_encP, map_sealed_encP, map_ren_encP, encP, take_map_len, encCert, renL_certL] <;> omega)))); first | done | fail) : p := h
theorem lsrB57 {p : Prop} (h : p := by (first | rfl | (simp [St.born, St.known, retV, St.get, St.obj, lk, sealed, PV.ren, renL, rmap, AO.ren, ints, strs, encI, encS, map_sealed_encI, map_sealed_encS, map_sealed_ints, map_sealed_strs, map_ren_encI, map_ren_encS, map_ren_ints, map_ren_strs, renL_encI, renL_encS, renL_ints, renL_strs, ren_case, encC, pairs, renL_encP, map_sealed_encP, map_ren_encP, encP, take_map_len, encCert, renL_certL]; done)); first | done | fail) : p := h
theorem lpvB57 {p : Prop} (h : p := by (first | rfl | (simp [pure_ints, pure_strs, PV.pure, pureL, pureL_encI, pureL_encS, pureL_ints, pureL_strs, pure_case, pureL_encP, pure_pairs, pure_cert, pureL_certL]; done)); first | done | fail) : p := h
theorem proved_pure (l m : List Int) (how by_ : Int) (hl : Fits l) (hm : Fits m) (hh : I64 how) (hb : I64 by_) (hlv : Pure Try.prog 21 [] (.atom (.bool true)) []) : Pure Try.prog 6 [ints l, ints m, encI how, encI by_] (.atom (.bool true)) [] := by
  have hG := made_good l
  have hc := made_held l
  have hv := made_valid l
  have hms := made_short l
  have hft := made_fit l
  have htm := findC_tame l
  have hMade := Made_pure l hl
  generalize madeC l = c at hG hc hv hms hft htm hMade
  have hlo := hG.lo
  have hhi := hG.hi
  have hFl := findP_len c
  have hF := aFind_pure c hft.1 hft.2
  unfold findR at hF
  rw [hv] at hF
  have hsa := htm.sane (by omega)
  obtain ⟨k1, k2, k3⟩ := check_best hv
  have hC := aCheck_pure c (findP c) (findC c) hc (by omega) hsa
  rw [k1, k2] at hC
  have hfr : 0 ≤ findN c ∧ findN c ≤ 2048000000 := by rw [findN_eq hv]; exact greatest_rng hG (by omega)
  have hbr := (bestS_tame hG)
  rw [← findC_eq hv] at hbr
  have hb1 := hbr.lo
  have hb2 := hbr.hi
  have hX := chosen_fits hG m
  have hXl := chosenP_len c m c.sizes.length
  have hCh := chosen_pure c m hc hG hm
  generalize chosenP c m c.sizes.length = ps at hX hXl hCh
  have hle := fits_loads hG hv hXl hX
  have hL := aLoads_pure c ps hc (by omega)
  rw [hle.1] at hL
  have hmin := fun h6 => findN_min hv h6 hXl hX
  rw [← hle.2] at hmin
  have hrl := loadsR_len c ps hhi
  have hgt := Greatest_pure (loadsR c ps) (by omega)
  have hx : ∀ x, x ∈ [findC c, tornX (findC c) how by_] → Sane x := fun x hx => by
    rcases List.mem_cons.1 hx with rfl | hx
    · exact hsa
    · rw [List.mem_singleton.1 hx]; exact (torn_tame htm).sane (by omega)
  have hmo := model_pure (findC c)
  have hTo := Torn_tame (findC c) 0 htm (by omega) how by_ hh hb
  have hLe : PV.sl 3 [encCert (findC c), encCert (tornX (findC c) how by_)] = .sl 3 ([findC c, tornX (findC c) how by_].map encCert) := rfl
  have hXs : [findC c, tornX (findC c) how by_].length = 2 := rfl
  generalize hXe : [findC c, tornX (findC c) how by_] = Xs at hx hLe hXs
  refine Pure.intro (ts := [8]) Try.func6 (by kernel_rfl) rfl rfl rfl (Nat.le_of_ble_eq_true rfl) ?_ ?_
  · simp [pure_ints, encI, PV.pure, pureL]
  refine sZ [0, 1, 2, 3] (fun P S K => K ⟨[(0, S.get 0), (1, S.get 1), (2, S.get 2), (3, S.get 3)], S.hp, S.nx, S.gh⟩) fun K hK => ?_
  repeat' (first | (refine hK _ ?_; clear hK K) | refine And.intro ?_ ?_ | exact cl | exact one_encP _ | (refine st ?_; try simp only [encC, pairs, encCert, dec_self, renL_encP]) | simp only [encC, pairs, encCert, dec_self, renL_encP])
  all_goals
  refine sZ [1, 2, 3, 9] (fun P S K => XvFnIV P (M S.hp S.nx) (.fn 10 []) [(S.get 0)] (fun r1 ef1 => XvAlloc P 25 (S.nx + ef1.add.length) (fun r2 ef2 => XvStore P 25 (M (Eff.hp ef2 (S.nx + ef1.add.length) (Eff.hp ef1 S.nx S.hp)) ((S.nx + ef1.add.length) + ef2.add.length)) r2 r1 (fun r3 ef3 => K ⟨[(1, S.get 1), (2, S.get 2), (3, S.get 3), (9, r2)], (Eff.hp ef3 ((S.nx + ef1.add.length) + ef2.add.length) (Eff.hp ef2 (S.nx + ef1.add.length) (Eff.hp ef1 S.nx S.hp))), (((S.nx + ef1.add.length) + ef2.add.length) + ef3.add.length), S.gh⟩)))) fun K hK => ?_
  repeat' (first | (refine hK _ ?_; clear hK K) | refine And.intro ?_ ?_ | exact cl | exact one_encP _ | refine .inl ⟨_, _, hMade, ?_⟩ | refine .inl ⟨_, _, hF, ?_⟩ | refine .inl ⟨_, _, hC, ?_⟩ | refine .inl ⟨_, _, hCh, ?_⟩ | refine .inl ⟨_, _, hmo, ?_⟩ | refine .inl ⟨_, _, hTo, ?_⟩ | refine .inl ⟨_, _, hKc, ?_⟩ | refine .inl ⟨_, _, hB, ?_⟩ | refine .inl ⟨_, _, hL, ?_⟩ | refine .inl ⟨_, _, hgt, ?_⟩ | refine .inl ⟨_, _, hlv, ?_⟩ | (refine st ?_; try simp only [encC, pairs, encCert, dec_self, renL_encP]) | simp only [encC, pairs, encCert, dec_self, renL_encP])
  all_goals
  refine sZ [1, 2, 3, 9, 10, 11, 12, 13] (fun P S K => XvLoad P 25 (M S.hp S.nx) (S.get 9) (fun r0 _ => XvFnIV P (M S.hp S.nx) (.fn 16 []) [r0] (fun r1 ef1 => XvFnIV P (M (Eff.hp ef1 S.nx S.hp) (S.nx + ef1.add.length)) (.fn 22 []) [r1] (fun r2 ef2 => XvExtract r2 0 (fun r4 _ => XvExtract r2 1 (fun r5 _ => XvExtract r2 2 (fun r6 _ => XvExtract r2 3 (fun r7 _ => XvAlloc P 47 ((S.nx + ef1.add.length) + ef2.add.length) (fun r8 ef8 => XvStore P 47 (M (Eff.hp ef8 ((S.nx + ef1.add.length) + ef2.add.length) (Eff.hp ef2 (S.nx + ef1.add.length) (Eff.hp ef1 S.nx S.hp))) (((S.nx + ef1.add.length) + ef2.add.length) + ef8.add.length)) r8 r6 (fun r11 ef11 => K ⟨[(1, S.get 1), (2, S.get 2), (3, S.get 3), (9, S.get 9), (10, r4), (11, r5), (12, r8), (13, r7)], (Eff.hp ef11 (((S.nx + ef1.add.length) + ef2.add.length) + ef8.add.length) (Eff.hp ef8 ((S.nx + ef1.add.length) + ef2.add.length) (Eff.hp ef2 (S.nx + ef1.add.length) (Eff.hp ef1 S.nx S.hp)))), ((((S.nx + ef1.add.length) + ef2.add.length) + ef8.add.length) + ef11.add.length), S.gh⟩)))))))))) fun K hK => ?_
  repeat' (first | (refine hK _ ?_; clear hK K) | refine And.intro ?_ ?_ | exact cl | exact one_encP _ | refine one_take ?_ _ | refine one_drop ?_ _ | refine .inl ⟨_, _, hMade, ?_⟩ | refine .inl ⟨_, _, own_pure c, ?_⟩ | refine .inl ⟨_, _, hF, ?_⟩ | refine .inl ⟨_, _, hC, ?_⟩ | refine .inl ⟨_, _, hCh, ?_⟩ | refine .inl ⟨_, _, hmo, ?_⟩ | refine .inl ⟨_, _, hTo, ?_⟩ | refine .inl ⟨_, _, hKc, ?_⟩ | refine .inl ⟨_, _, hB, ?_⟩ | refine .inl ⟨_, _, hL, ?_⟩ | refine .inl ⟨_, _, hgt, ?_⟩ | refine .inl ⟨_, _, hlv, ?_⟩ | (refine st ?_; try simp only [encC, pairs, encCert, dec_self, renL_encP]) | simp only [encC, pairs, encCert, dec_self, renL_encP])
  all_goals
  refine sD 10 [1, 2, 3, 9, 11, 12, 13, 14, 15] (fun P GD S K => XvLoad P 25 (M S.hp S.nx) (S.get 9) (fun r0 ef0 => XvFnV P (M S.hp S.nx) (.fn 16 []) [r0] (fun r1 ef1 => XvLoad P 47 (M (Eff.hp ef1 S.nx S.hp) (S.nx + ef1.add.length)) (S.get 12) (fun r3 ef3 => XvFnV P (M (Eff.hp ef1 S.nx S.hp) (S.nx + ef1.add.length)) (.fn 31 []) [r1, (S.get 10), r3] (fun r4 ef4 => XvExtract r4 0 (fun r6 ef6 => XvExtract r4 1 (fun r7 ef7 => (trOk S.nx GD [⟨S.nx, 0, ef0.rd, [], []⟩, (Eff.tr ef1 S.nx), ⟨(S.nx + ef1.add.length), 0, [], [], []⟩, ⟨(S.nx + ef1.add.length), 0, ef3.rd, [], []⟩, (Eff.tr ef4 (S.nx + ef1.add.length)), ⟨((S.nx + ef1.add.length) + ef4.add.length), 0, [], [], []⟩, ⟨((S.nx + ef1.add.length) + ef4.add.length), 0, ef6.rd, [], []⟩, ⟨((S.nx + ef1.add.length) + ef4.add.length), 0, ef7.rd, [], []⟩, ⟨((S.nx + ef1.add.length) + ef4.add.length), 0, [], [], []⟩, ⟨((S.nx + ef1.add.length) + ef4.add.length), 0, [], [], []⟩] = true ∧ K ⟨[(1, S.get 1), (2, S.get 2), (3, S.get 3), (9, S.get 9), (11, S.get 11), (12, S.get 12), (13, S.get 13), (14, r6), (15, r7)], (Eff.hp ef4 (S.nx + ef1.add.length) (Eff.hp ef1 S.nx S.hp)), ((S.nx + ef1.add.length) + ef4.add.length), S.gh⟩)))))))) fun K hK => ?_
  repeat' (first | (refine hK _ ?_; clear hK K) | (refine (?_ : trOk _ _ _ = true); kernel_rfl) | refine And.intro ?_ ?_ | exact cl | exact one_encP _ | refine one_take ?_ _ | refine one_drop ?_ _ | refine .inl ⟨_, _, hMade, ?_⟩ | refine ⟨_, _, hMade, ?_⟩ | refine .inl ⟨_, _, own_pure c, ?_⟩ | refine ⟨_, _, own_pure c, ?_⟩ | refine .inl ⟨_, _, hF, ?_⟩ | refine ⟨_, _, hF, ?_⟩ | refine .inl ⟨_, _, hC, ?_⟩ | refine ⟨_, _, hC, ?_⟩ | refine .inl ⟨_, _, hCh, ?_⟩ | refine ⟨_, _, hCh, ?_⟩ | refine .inl ⟨_, _, hmo, ?_⟩ | refine ⟨_, _, hmo, ?_⟩ | refine .inl ⟨_, _, hTo, ?_⟩ | refine ⟨_, _, hTo, ?_⟩ | refine .inl ⟨_, _, hKc, ?_⟩ | refine ⟨_, _, hKc, ?_⟩ | refine .inl ⟨_, _, hB, ?_⟩ | refine ⟨_, _, hB, ?_⟩ | refine .inl ⟨_, _, hL, ?_⟩ | refine ⟨_, _, hL, ?_⟩ | refine .inl ⟨_, _, hgt, ?_⟩ | refine ⟨_, _, hgt, ?_⟩ | refine .inl ⟨_, _, hlv, ?_⟩ | refine ⟨_, _, hlv, ?_⟩ | (refine st ?_; try simp only [encC, pairs, encCert, dec_self, renL_encP]) | simp only [encC, pairs, encCert, dec_self, renL_encP])
  all_goals
  refine Tri.seq ?_
  refine sZ [1, 2, 3, 9, 11, 12, 60] (fun P S K => XvBinOV P .neq 32 (.const (.int .i64 0)) (S.get 13) (.atom (.int .i64 0)) (fun r1 _ => Xgq r1 false (fun k => k (S.get 15)) (fun g3 r3 => Xgq g3 false (fun k => XvBinOV P .neq 32 (.const (.int .i64 0)) r3 (.atom (.int .i64 0)) (fun r4 _ => k r4)) (fun g4 r4 => XvPick g4 (.atom (.bool true)) r4 (fun r5 _ => Xgq r5 false (fun k => k (S.get 14)) (fun g7 r7 => Xgq g7 false (fun k => k (S.get 11)) (fun g8 r8 => Xgq g8 false (fun k => XvFieldAddr P 47 2 (S.get 12) (fun r9 _ => k r9)) (fun g9 r9 => Xgq g9 false (fun k => XvLoad P 3 (M S.hp S.nx) r9 (fun r10 _ => k r10)) (fun g10 r10 => Xgq g10 false (fun k => XvBinOV P .sub 3 (.tmp 53) r8 r10 (fun r11 _ => k r11)) (fun g11 r11 => Xgq g11 false (fun k => XvBinOV P .neq 3 (.tmp 54) r7 r11 (fun r12 _ => k r12)) (fun g12 r12 => XvPick g12 (.atom (.bool true)) r12 (fun r13 _ => Xgq r13 false (fun k => k (S.get 14)) (fun g15 r15 => Xgq g15 false (fun k => XvBinOV P .lss 3 (.const (.int .i64 0)) r15 (.atom (.int .i64 0)) (fun r16 _ => k r16)) (fun g16 r16 => XvPick g16 (.atom (.bool true)) r16 (fun r17 _ => K ⟨[(1, S.get 1), (2, S.get 2), (3, S.get 3), (9, S.get 9), (11, S.get 11), (12, S.get 12), (60, r17)], S.hp, S.nx, S.gh⟩))))))))))))))) fun K hK => ?_
  repeat' (first | (refine hK _ ?_; clear hK K) | ((first | refine xG_intro (fun hg => ?_) (fun hg => ?_) | refine fun (hg : (_ : Prop)) => ?_) <;> ((try simp only [BQ] at hg); try (exfalso; omega))) | refine And.intro ?_ ?_ | exact cl | exact one_encP _ | refine one_take ?_ _ | refine one_drop ?_ _ | (refine st ?_; try simp only [encC, pairs, encCert, dec_self, renL_encP, wrap_id (x := findN c - (findC c).least) (by omega) (by omega)]) | simp only [encC, pairs, encCert, dec_self, renL_encP, wrap_id (x := findN c - (findC c).least) (by omega) (by omega)])
  all_goals try simp (disch := omega) only [wrap_id, wrap8_id]
  all_goals
  refine Tri.cond rfl (fun h60 => ?_) (fun h60 => ?_)
  ·try (cases h60; done)
   all_goals (try simp only [CQ] at h60)
   all_goals
   refine sZ [8] (fun P S K => K ⟨[(8, (.atom (.bool false)))], S.hp, S.nx, S.gh⟩) fun K hK => ?_
   repeat' (first | (refine hK _ ?_; clear hK K) | refine And.intro ?_ ?_ | exact cl | exact one_encP _ | (refine st ?_; try simp only [encC, pairs, encCert, dec_self, renL_encP]) | simp only [encC, pairs, encCert, dec_self, renL_encP])
   all_goals
   refine Tri.ret ?_
   show ResOk _ _ _ _
   exact ResOk.val lsrB57 lpvB57
  ·try (cases h60; done)
   all_goals (try simp only [CQ] at h60)
   all_goals
   refine Tri.skip ?_
   refine sZ [2, 3, 9, 11, 12, 16] (fun P S K => XvLoad P 25 (M S.hp S.nx) (S.get 9) (fun r0 _ => XvFnIV P (M S.hp S.nx) (.fn 33 []) [r0, (S.get 1)] (fun r2 ef2 => K ⟨[(2, S.get 2), (3, S.get 3), (9, S.get 9), (11, S.get 11), (12, S.get 12), (16, r2)], (Eff.hp ef2 S.nx S.hp), (S.nx + ef2.add.length), S.gh⟩))) fun K hK => ?_
   repeat' (first | (refine hK _ ?_; clear hK K) | refine And.intro ?_ ?_ | exact cl | exact one_encP _ | refine one_take ?_ _ | refine one_drop ?_ _ | refine .inl ⟨_, _, hMade, ?_⟩ | refine .inl ⟨_, _, hF, ?_⟩ | refine .inl ⟨_, _, hC, ?_⟩ | refine .inl ⟨_, _, hCh, ?_⟩ | refine .inl ⟨_, _, hmo, ?_⟩ | refine .inl ⟨_, _, hTo, ?_⟩ | refine .inl ⟨_, _, hKc, ?_⟩ | refine .inl ⟨_, _, hB, ?_⟩ | refine .inl ⟨_, _, hL, ?_⟩ | refine .inl ⟨_, _, hgt, ?_⟩ | refine .inl ⟨_, _, hlv, ?_⟩ | (refine st ?_; try simp only [encC, pairs, encCert, dec_self, renL_encP]) | simp only [encC, pairs, encCert, dec_self, renL_encP])
   all_goals
   refine sD 9 [9, 11, 16, 17] (fun P GD S K => XvLoad P 47 (M S.hp S.nx) (S.get 12) (fun r0 ef0 => XvFnV P (M S.hp S.nx) (.fn 25 []) [r0] (fun r1 ef1 => XvLoad P 47 (M (Eff.hp ef1 S.nx S.hp) (S.nx + ef1.add.length)) (S.get 12) (fun r2 ef2 => XvFnV P (M (Eff.hp ef1 S.nx S.hp) (S.nx + ef1.add.length)) (.fn 25 []) [r2] (fun r3 ef3 => XvFnV P (M (Eff.hp ef3 (S.nx + ef1.add.length) (Eff.hp ef1 S.nx S.hp)) ((S.nx + ef1.add.length) + ef3.add.length)) (.fn 26 []) [r3, (S.get 2), (S.get 3)] (fun r6 ef6 => XvBuildS P 55 2 (((S.nx + ef1.add.length) + ef3.add.length) + ef6.add.length) [(0, r1), (1, r6)] (fun r7 ef7 => (trOk S.nx GD [⟨S.nx, 0, ef0.rd, [], []⟩, (Eff.tr ef1 S.nx), ⟨(S.nx + ef1.add.length), 0, ef2.rd, [], []⟩, (Eff.tr ef3 (S.nx + ef1.add.length)), ⟨((S.nx + ef1.add.length) + ef3.add.length), 0, [], [], []⟩, ⟨((S.nx + ef1.add.length) + ef3.add.length), 0, [], [], []⟩, (Eff.tr ef6 ((S.nx + ef1.add.length) + ef3.add.length)), (Eff.tr ef7 (((S.nx + ef1.add.length) + ef3.add.length) + ef6.add.length)), ⟨((((S.nx + ef1.add.length) + ef3.add.length) + ef6.add.length) + ef7.add.length), 0, [], [], []⟩] = true ∧ K ⟨[(9, S.get 9), (11, S.get 11), (16, S.get 16), (17, r7)], (Eff.hp ef7 (((S.nx + ef1.add.length) + ef3.add.length) + ef6.add.length) (Eff.hp ef6 ((S.nx + ef1.add.length) + ef3.add.length) (Eff.hp ef3 (S.nx + ef1.add.length) (Eff.hp ef1 S.nx S.hp)))), ((((S.nx + ef1.add.length) + ef3.add.length) + ef6.add.length) + ef7.add.length), S.gh⟩)))))))) fun K hK => ?_
   repeat' (first | (refine hK _ ?_; clear hK K) | (refine (?_ : trOk _ _ _ = true); kernel_rfl) | refine And.intro ?_ ?_ | exact cl | exact one_encP _ | refine one_take ?_ _ | refine one_drop ?_ _ | refine .inl ⟨_, _, hMade, ?_⟩ | refine ⟨_, _, hMade, ?_⟩ | refine .inl ⟨_, _, hF, ?_⟩ | refine ⟨_, _, hF, ?_⟩ | refine .inl ⟨_, _, hC, ?_⟩ | refine ⟨_, _, hC, ?_⟩ | refine .inl ⟨_, _, hCh, ?_⟩ | refine ⟨_, _, hCh, ?_⟩ | refine .inl ⟨_, _, hmo, ?_⟩ | refine ⟨_, _, hmo, ?_⟩ | refine .inl ⟨_, _, hTo, ?_⟩ | refine ⟨_, _, hTo, ?_⟩ | refine .inl ⟨_, _, hKc, ?_⟩ | refine ⟨_, _, hKc, ?_⟩ | refine .inl ⟨_, _, hB, ?_⟩ | refine ⟨_, _, hB, ?_⟩ | refine .inl ⟨_, _, hL, ?_⟩ | refine ⟨_, _, hL, ?_⟩ | refine .inl ⟨_, _, hgt, ?_⟩ | refine ⟨_, _, hgt, ?_⟩ | refine .inl ⟨_, _, hlv, ?_⟩ | refine ⟨_, _, hlv, ?_⟩ | (refine st ?_; try simp only [encC, pairs, encCert, dec_self, renL_encP]) | simp only [encC, pairs, encCert, dec_self, renL_encP])
   all_goals
   refine Tri.seq ?_
   refine sZ [9, 11, 16, 17, 18] (fun P S K => K ⟨[(9, S.get 9), (11, S.get 11), (16, S.get 16), (17, S.get 17), (18, (.atom (.int .i64 0)))], S.hp, S.nx, S.gh⟩) fun K hK => ?_
   repeat' (first | (refine hK _ ?_; clear hK K) | refine And.intro ?_ ?_ | exact cl | exact one_encP _ | (refine st ?_; try simp only [encC, pairs, encCert, dec_self, renL_encP]) | simp only [encC, pairs, encCert, dec_self, renL_encP])
   all_goals
   refine Tri.block ?_
   refine Tri.loop (α := (i : Nat) ×' (i ≤ 2)) (fun z => (fun (i : Nat) => (⟨[(9, .ptr 0 3 0 0), (11, encI (findN c)), (16, pairs ps), (17, .sl 3 (Xs.map encCert)), (18, encI i)], [(0, some ⟨3, [encC c]⟩)], 1, []⟩ : St)) z.1) (fun z => (fun (i : Nat) => 2 - i) z.1) ⟨0, by omega⟩ [0] ?_ ?_
   ·subst hXe
    exact leqB57
   ·rintro ⟨i, hi⟩
    refine Tri.seq ?_
    refine sZ [9, 11, 16, 17, 18, 75] (fun P S K => XvLen P 55 (S.get 17) (fun r2 _ => XvBinOV P .lss 3 (.tmp 74) (S.get 18) r2 (fun r3 _ => K ⟨[(9, S.get 9), (11, S.get 11), (16, S.get 16), (17, S.get 17), (18, S.get 18), (75, r3)], S.hp, S.nx, S.gh⟩))) fun K hK => ?_
    repeat' (first | (refine hK _ ?_; clear hK K) | refine And.intro ?_ ?_ | exact cl | exact one_encP _ | (refine st ?_; try simp only [encC, pairs, encCert, dec_self, renL_encP]) | simp only [encC, pairs, encCert, dec_self, renL_encP])
    all_goals
    refine Tri.cond rfl (fun h75 => ?_) (fun h75 => ?_)
    ·try (cases h75; done)
     all_goals (try simp only [CQ] at h75)
     all_goals
     refine Tri.skip ?_
     refine Tri.seq ?_
     refine Tri.block ?_
     have hil : i < Xs.length := by omega
     have hxi := hx _ (getD_in (d := ⟨[], [], 0⟩) hil)
     have hge := getD_certL hil
     generalize Xs.getD i ⟨[], [], 0⟩ = x at hxi hge
     have hKc := aCheck_pure c ps x hc (by omega) hxi
     have hB := aBound_pure c x hc hxi
     obtain ⟨k4, k5⟩ := check_any hle.1 x
     rw [k4] at hKc
     have hbe := boundE_rng c x
     generalize boundE c x = be at hKc hB k5 hbe
     generalize checkN c ps x = ce at hKc k5
     refine sD 14 [9, 11, 16, 17, 18, 19, 20] (fun P GD S K => XvLoad P 25 (M S.hp S.nx) (S.get 9) (fun r0 ef0 => XvFnV P (M S.hp S.nx) (.fn 16 []) [r0] (fun r1 ef1 => XvIndexAddr P 55 (S.get 17) (S.get 18) (fun r5 ef5 => XvLoad P 31 (M (Eff.hp ef1 S.nx S.hp) (S.nx + ef1.add.length)) r5 (fun r6 ef6 => XvFnV P (M (Eff.hp ef1 S.nx S.hp) (S.nx + ef1.add.length)) (.fn 29 []) [r6] (fun r7 ef7 => XvFnV P (M (Eff.hp ef7 (S.nx + ef1.add.length) (Eff.hp ef1 S.nx S.hp)) ((S.nx + ef1.add.length) + ef7.add.length)) (.fn 31 []) [r1, (S.get 16), r7] (fun r8 ef8 => XvExtract r8 0 (fun r10 ef10 => XvExtract r8 1 (fun r11 ef11 => (trOk S.nx GD [⟨S.nx, 0, ef0.rd, [], []⟩, (Eff.tr ef1 S.nx), ⟨(S.nx + ef1.add.length), 0, [], [], []⟩, ⟨(S.nx + ef1.add.length), 0, [], [], []⟩, ⟨(S.nx + ef1.add.length), 0, [], [], []⟩, ⟨(S.nx + ef1.add.length), 0, ef5.rd, [], []⟩, ⟨(S.nx + ef1.add.length), 0, ef6.rd, [], []⟩, (Eff.tr ef7 (S.nx + ef1.add.length)), (Eff.tr ef8 ((S.nx + ef1.add.length) + ef7.add.length)), ⟨(((S.nx + ef1.add.length) + ef7.add.length) + ef8.add.length), 0, [], [], []⟩, ⟨(((S.nx + ef1.add.length) + ef7.add.length) + ef8.add.length), 0, ef10.rd, [], []⟩, ⟨(((S.nx + ef1.add.length) + ef7.add.length) + ef8.add.length), 0, ef11.rd, [], []⟩, ⟨(((S.nx + ef1.add.length) + ef7.add.length) + ef8.add.length), 0, [], [], []⟩, ⟨(((S.nx + ef1.add.length) + ef7.add.length) + ef8.add.length), 0, [], [], []⟩] = true ∧ K ⟨[(9, S.get 9), (11, S.get 11), (16, S.get 16), (17, S.get 17), (18, S.get 18), (19, r10), (20, r11)], (Eff.hp ef8 ((S.nx + ef1.add.length) + ef7.add.length) (Eff.hp ef7 (S.nx + ef1.add.length) (Eff.hp ef1 S.nx S.hp))), (((S.nx + ef1.add.length) + ef7.add.length) + ef8.add.length), S.gh⟩)))))))))) fun K hK => ?_
     repeat' (first | (refine hK _ ?_; clear hK K) | (refine (?_ : trOk _ _ _ = true); kernel_rfl) | refine And.intro ?_ ?_ | exact cl | exact one_encP _ | refine one_take ?_ _ | refine one_drop ?_ _ | refine .inl ⟨_, _, hMade, ?_⟩ | refine ⟨_, _, hMade, ?_⟩ | refine .inl ⟨_, _, own_pure c, ?_⟩ | refine ⟨_, _, own_pure c, ?_⟩ | refine .inl ⟨_, _, hF, ?_⟩ | refine ⟨_, _, hF, ?_⟩ | refine .inl ⟨_, _, hC, ?_⟩ | refine ⟨_, _, hC, ?_⟩ | refine .inl ⟨_, _, hCh, ?_⟩ | refine ⟨_, _, hCh, ?_⟩ | refine .inl ⟨_, _, hmo, ?_⟩ | refine ⟨_, _, hmo, ?_⟩ | refine .inl ⟨_, _, hTo, ?_⟩ | refine ⟨_, _, hTo, ?_⟩ | refine .inl ⟨_, _, given_pure x, ?_⟩ | refine ⟨_, _, given_pure x, ?_⟩ | refine .inl ⟨_, _, hKc, ?_⟩ | refine ⟨_, _, hKc, ?_⟩ | refine .inl ⟨_, _, hB, ?_⟩ | refine ⟨_, _, hB, ?_⟩ | refine .inl ⟨_, _, hL, ?_⟩ | refine ⟨_, _, hL, ?_⟩ | refine .inl ⟨_, _, hgt, ?_⟩ | refine ⟨_, _, hgt, ?_⟩ | refine .inl ⟨_, _, hlv, ?_⟩ | refine ⟨_, _, hlv, ?_⟩ | (refine st ?_; try simp only [encC, pairs, encCert, dec_self, renL_encP, hge]) | simp only [encC, pairs, encCert, dec_self, renL_encP, hge])
     all_goals
     refine sD 13 [9, 11, 16, 17, 18, 19, 20, 22] (fun P GD S K => XvLoad P 25 (M S.hp S.nx) (S.get 9) (fun r0 ef0 => XvFnV P (M S.hp S.nx) (.fn 16 []) [r0] (fun r1 ef1 => XvIndexAddr P 55 (S.get 17) (S.get 18) (fun r4 ef4 => XvLoad P 31 (M (Eff.hp ef1 S.nx S.hp) (S.nx + ef1.add.length)) r4 (fun r5 ef5 => XvFnV P (M (Eff.hp ef1 S.nx S.hp) (S.nx + ef1.add.length)) (.fn 29 []) [r5] (fun r6 ef6 => XvFnV P (M (Eff.hp ef6 (S.nx + ef1.add.length) (Eff.hp ef1 S.nx S.hp)) ((S.nx + ef1.add.length) + ef6.add.length)) (.fn 28 []) [r1, r6] (fun r7 ef7 => XvExtract r7 0 (fun r9 ef9 => XvExtract r7 1 (fun r10 ef10 => (trOk S.nx GD [⟨S.nx, 0, ef0.rd, [], []⟩, (Eff.tr ef1 S.nx), ⟨(S.nx + ef1.add.length), 0, [], [], []⟩, ⟨(S.nx + ef1.add.length), 0, [], [], []⟩, ⟨(S.nx + ef1.add.length), 0, ef4.rd, [], []⟩, ⟨(S.nx + ef1.add.length), 0, ef5.rd, [], []⟩, (Eff.tr ef6 (S.nx + ef1.add.length)), (Eff.tr ef7 ((S.nx + ef1.add.length) + ef6.add.length)), ⟨(((S.nx + ef1.add.length) + ef6.add.length) + ef7.add.length), 0, [], [], []⟩, ⟨(((S.nx + ef1.add.length) + ef6.add.length) + ef7.add.length), 0, ef9.rd, [], []⟩, ⟨(((S.nx + ef1.add.length) + ef6.add.length) + ef7.add.length), 0, ef10.rd, [], []⟩, ⟨(((S.nx + ef1.add.length) + ef6.add.length) + ef7.add.length), 0, [], [], []⟩, ⟨(((S.nx + ef1.add.length) + ef6.add.length) + ef7.add.length), 0, [], [], []⟩] = true ∧ K ⟨[(9, S.get 9), (11, S.get 11), (16, S.get 16), (17, S.get 17), (18, S.get 18), (19, S.get 19), (20, S.get 20), (22, r10)], (Eff.hp ef7 ((S.nx + ef1.add.length) + ef6.add.length) (Eff.hp ef6 (S.nx + ef1.add.length) (Eff.hp ef1 S.nx S.hp))), (((S.nx + ef1.add.length) + ef6.add.length) + ef7.add.length), S.gh⟩)))))))))) fun K hK => ?_
     repeat' (first | (refine hK _ ?_; clear hK K) | (refine (?_ : trOk _ _ _ = true); kernel_rfl) | refine And.intro ?_ ?_ | exact cl | exact one_encP _ | refine one_take ?_ _ | refine one_drop ?_ _ | refine .inl ⟨_, _, hMade, ?_⟩ | refine ⟨_, _, hMade, ?_⟩ | refine .inl ⟨_, _, own_pure c, ?_⟩ | refine ⟨_, _, own_pure c, ?_⟩ | refine .inl ⟨_, _, hF, ?_⟩ | refine ⟨_, _, hF, ?_⟩ | refine .inl ⟨_, _, hC, ?_⟩ | refine ⟨_, _, hC, ?_⟩ | refine .inl ⟨_, _, hCh, ?_⟩ | refine ⟨_, _, hCh, ?_⟩ | refine .inl ⟨_, _, hmo, ?_⟩ | refine ⟨_, _, hmo, ?_⟩ | refine .inl ⟨_, _, hTo, ?_⟩ | refine ⟨_, _, hTo, ?_⟩ | refine .inl ⟨_, _, given_pure x, ?_⟩ | refine ⟨_, _, given_pure x, ?_⟩ | refine .inl ⟨_, _, hKc, ?_⟩ | refine ⟨_, _, hKc, ?_⟩ | refine .inl ⟨_, _, hB, ?_⟩ | refine ⟨_, _, hB, ?_⟩ | refine .inl ⟨_, _, hL, ?_⟩ | refine ⟨_, _, hL, ?_⟩ | refine .inl ⟨_, _, hgt, ?_⟩ | refine ⟨_, _, hgt, ?_⟩ | refine .inl ⟨_, _, hlv, ?_⟩ | refine ⟨_, _, hlv, ?_⟩ | (refine st ?_; try simp only [encC, pairs, encCert, dec_self, renL_encP, hge]) | simp only [encC, pairs, encCert, dec_self, renL_encP, hge])
     all_goals
     refine sZ [9, 11, 16, 17, 18, 111] (fun P S K => XvBinOV P .neq 32 (.tmp 102) (S.get 20) (S.get 22) (fun r2 _ => Xgq r2 false (fun k => k (S.get 20)) (fun g4 r4 => Xgq g4 false (fun k => XvBinOV P .eql 32 (.const (.int .i64 0)) r4 (.atom (.int .i64 0)) (fun r5 _ => k r5)) (fun g5 r5 => Xgq g5 false (fun k => k r5) (fun g6 r6 => Xgq r6 true (fun k => k (S.get 19)) (fun g7 r7 => Xgq g7 true (fun k => XvBinOV P .lss 3 (.const (.int .i64 0)) r7 (.atom (.int .i64 0)) (fun r8 _ => k r8)) (fun g8 r8 => Xgq g6 false (fun k => XvPick g8 r8 (.atom (.bool false)) (fun r9 _ => k r9)) (fun g9 r9 => XvPick g9 (.atom (.bool true)) r9 (fun r10 _ => K ⟨[(9, S.get 9), (11, S.get 11), (16, S.get 16), (17, S.get 17), (18, S.get 18), (111, r10)], S.hp, S.nx, S.gh⟩))))))))) fun K hK => ?_
     repeat' (first | (refine hK _ ?_; clear hK K) | ((first | refine xG_intro (fun hg => ?_) (fun hg => ?_) | refine fun (hg : (_ : Prop)) => ?_) <;> ((try simp only [BQ] at hg); try (exfalso; omega))) | refine And.intro ?_ ?_ | exact cl | exact one_encP _ | refine one_take ?_ _ | refine one_drop ?_ _ | (refine st ?_; try simp only [encC, pairs, encCert, dec_self, renL_encP]) | simp only [encC, pairs, encCert, dec_self, renL_encP])
     all_goals
     refine Tri.cond rfl (fun h111 => ?_) (fun h111 => ?_)
     ·try (cases h111; done)
      all_goals (try simp only [CQ] at h111)
      all_goals
      refine sZ [8] (fun P S K => K ⟨[(8, (.atom (.bool false)))], S.hp, S.nx, S.gh⟩) fun K hK => ?_
      repeat' (first | (refine hK _ ?_; clear hK K) | refine And.intro ?_ ?_ | exact cl | exact one_encP _ | (refine st ?_; try simp only [encC, pairs, encCert, dec_self, renL_encP]) | simp only [encC, pairs, encCert, dec_self, renL_encP])
      all_goals
      refine Tri.ret ?_
      show ResOk _ _ _ _
      exact ResOk.val lsrB57 lpvB57
     ·try (cases h111; done)
      all_goals (try simp only [CQ] at h111)
      all_goals
      refine Tri.skip ?_
      refine rZ [9, 11, 16, 17, 18] (fun P S K => XvBinOV P .add 3 (.const (.int .i64 1)) (S.get 18) (.atom (.int .i64 1)) (fun r1 _ => K ⟨[(9, S.get 9), (11, S.get 11), (16, S.get 16), (17, S.get 17), (18, r1)], S.hp, S.nx, S.gh⟩)) fun K hK => ?_
      repeat' (first | (refine hK _ ?_; clear hK K) | refine And.intro ?_ ?_ | exact cl | exact one_encP _ | (refine st ?_; try simp only [encC, pairs, encCert, dec_self, renL_encP]) | simp only [encC, pairs, encCert, dec_self, renL_encP])
      all_goals try simp (disch := omega) only [wrap_id, wrap8_id]
      all_goals
      refine ⟨⟨i + 1, by omega⟩, [0], by dsimp only; omega, ?_⟩
      exact leqB57
    ·try (cases h75; done)
     all_goals (try simp only [CQ] at h75)
     all_goals
     refine Tri.exit ?_
     refine sZ [9, 11, 23, 24] (fun P S K => XvLoad P 25 (M S.hp S.nx) (S.get 9) (fun r0 _ => XvFnIV P (M S.hp S.nx) (.fn 16 []) [r0] (fun r1 ef1 => XvFnIV P (M (Eff.hp ef1 S.nx S.hp) (S.nx + ef1.add.length)) (.fn 18 []) [r1, (S.get 16)] (fun r3 ef3 => XvExtract r3 0 (fun r5 _ => XvExtract r3 1 (fun r6 _ => K ⟨[(9, S.get 9), (11, S.get 11), (23, r5), (24, r6)], (Eff.hp ef3 (S.nx + ef1.add.length) (Eff.hp ef1 S.nx S.hp)), ((S.nx + ef1.add.length) + ef3.add.length), S.gh⟩)))))) fun K hK => ?_
     repeat' (first | (refine hK _ ?_; clear hK K) | refine And.intro ?_ ?_ | exact cl | exact one_encP _ | refine one_take ?_ _ | refine one_drop ?_ _ | refine .inl ⟨_, _, hMade, ?_⟩ | refine .inl ⟨_, _, own_pure c, ?_⟩ | refine .inl ⟨_, _, hF, ?_⟩ | refine .inl ⟨_, _, hC, ?_⟩ | refine .inl ⟨_, _, hCh, ?_⟩ | refine .inl ⟨_, _, hmo, ?_⟩ | refine .inl ⟨_, _, hTo, ?_⟩ | refine .inl ⟨_, _, hKc, ?_⟩ | refine .inl ⟨_, _, hB, ?_⟩ | refine .inl ⟨_, _, hL, ?_⟩ | refine .inl ⟨_, _, hgt, ?_⟩ | refine .inl ⟨_, _, hlv, ?_⟩ | (refine st ?_; try simp only [encC, pairs, encCert, dec_self, renL_encP]) | simp only [encC, pairs, encCert, dec_self, renL_encP])
     all_goals
     refine sZ [8] (fun P S K => XvBinOV P .eql 32 (.const (.int .i64 0)) (S.get 24) (.atom (.int .i64 0)) (fun r1 _ => Xgq r1 true (fun k => XvFieldAddr P 25 0 (S.get 9) (fun r3 _ => k r3)) (fun g3 r3 => Xgq g3 true (fun k => XvLoad P 22 (M S.hp S.nx) r3 (fun r4 _ => k r4)) (fun g4 r4 => Xgq g4 true (fun k => XvLen P 22 r4 (fun r5 _ => k r5)) (fun g5 r5 => Xgq g5 true (fun k => XvBinOV P .gtr 3 (.const (.int .i64 6)) r5 (.atom (.int .i64 6)) (fun r6 _ => k r6)) (fun g6 r6 => Xgq g6 true (fun k => k r6) (fun g7 r7 => Xgq r7 false (fun k => k (S.get 23)) (fun g8 r8 => Xge g8 false (fun k => XvFnIV P (M S.hp S.nx) (.fn 34 []) [r8] k) (fun g9 r9 ef9 => Xgq g9 false (fun k => k (S.get 11)) (fun g10 r10 => Xgq g10 false (fun k => XvBinOV P .geq 3 (.tmp 129) r9 r10 (fun r11 _ => k r11)) (fun g11 r11 => Xgq g7 true (fun k => XvPick g11 (.atom (.bool true)) r11 (fun r12 _ => k r12)) (fun g12 r12 => XvPick g12 r12 (.atom (.bool false)) (fun r13 _ => Xge r13 true (fun k => XvFnIV P (M (Eff.hp ef9 S.nx S.hp) (S.nx + ef9.add.length)) (.fn 21 []) [] k) (fun g15 r15 ef15 => XvPick g15 r15 (.atom (.bool false)) (fun r16 _ => K ⟨[(8, r16)], (Eff.hp ef15 (S.nx + ef9.add.length) (Eff.hp ef9 S.nx S.hp)), ((S.nx + ef9.add.length) + ef15.add.length), S.gh⟩))))))))))))))) fun K hK => ?_
     repeat' (first | (refine hK _ ?_; clear hK K) | ((first | refine xG_intro (fun hg => ?_) (fun hg => ?_) | refine fun (hg : (_ : Prop)) => ?_) <;> ((try simp only [BQ] at hg); try (exfalso; omega))) | refine And.intro ?_ ?_ | exact cl | exact one_encP _ | refine one_take ?_ _ | refine one_drop ?_ _ | refine .inl ⟨_, _, hMade, ?_⟩ | refine .inl ⟨_, _, hF, ?_⟩ | refine .inl ⟨_, _, hC, ?_⟩ | refine .inl ⟨_, _, hCh, ?_⟩ | refine .inl ⟨_, _, hmo, ?_⟩ | refine .inl ⟨_, _, hTo, ?_⟩ | refine .inl ⟨_, _, hKc, ?_⟩ | refine .inl ⟨_, _, hB, ?_⟩ | refine .inl ⟨_, _, hL, ?_⟩ | refine .inl ⟨_, _, hgt, ?_⟩ | refine .inl ⟨_, _, hlv, ?_⟩ | (refine st ?_; try simp only [encC, pairs, encCert, dec_self, renL_encP]) | simp only [encC, pairs, encCert, dec_self, renL_encP])
     all_goals
     refine Tri.ret ?_
     show ResOk _ _ _ _
     exact ResOk.val lsrB57 lpvB57
set_option maxRecDepth 100000
def nilV : PV := .atom (.slice none 0 0)
def arg1 : List PV := [.agg [.ob 0 1 0 3, encI 3, nilV]]
def hp1 : List AO := [⟨1, [3, 2, 2].map encI⟩]
def res1 : CallR := (.tup [.ob 1 2 0 3, encI 5, .agg [.ob 2 1 0 3, .ob 3 1 0 3, encI 5], encI 0], hp1.map some, [⟨2, [(0, 1), (0, 2), (1, 2)].map encP⟩, ⟨1, [0, 1, 2].map encI⟩, ⟨1, [0, 1, 2].map encI⟩])
theorem run_find1 : sameR (gRun Try.prog tbl0 [] 60 22 arg1 hp1) res1 = true := by kernel_rfl
def arg2 : List PV := [.agg [.ob 0 1 0 2, encI 3, .atom (.slice none 0 0)]]
def hp2 : List AO := [⟨1, [5, 1].map encI⟩]
def res2 : CallR := (.tup [.ob 1 2 0 2, encI 6, .agg [.ob 2 1 0 1, .atom (.slice none 0 0), encI 5], encI 0], hp2.map some, [⟨2, [(0, 1), (0, 1)].map encP⟩, ⟨1, [0].map encI⟩])
theorem run_find2 : sameR (gRun Try.prog tbl0 [] 60 22 arg2 hp2) res2 = true := by kernel_rfl
def arg3 : List PV := [.agg [.ob 0 1 0 2, encI 3, .ob 1 2 0 2]]
def hp3 : List AO := [⟨1, [2, 2].map encI⟩, ⟨2, [(0, 2), (1, 2)].map encP⟩]
def res3 : CallR := (.tup [.ob 2 2 0 2, encI 4, .agg [.ob 3 1 0 2, .ob 4 1 0 1, encI 4], encI 0], hp3.map some, [⟨2, [(0, 1), (0, 1)].map encP⟩, ⟨1, [0, 1].map encI⟩, ⟨1, [0].map encI⟩])
theorem run_find3 : sameR (gRun Try.prog tbl0 [] 60 22 arg3 hp3) res3 = true := by kernel_rfl
def tb1 : CallT := tblAdd 22 arg1 hp1 res1 tbl0
def tb2 : CallT := tblAdd 22 arg2 hp2 res2 tb1
def tb3 : CallT := tblAdd 22 arg3 hp3 res3 tb2
theorem tb1_ok : CallOk Try.prog tb1 := callOk_put tbl0_ok (gRun_ok tbl0_ok mixed 60 _ _ _ _ _ _ (sameR_eq run_find1))
theorem tb2_ok : CallOk Try.prog tb2 := callOk_put tb1_ok (gRun_ok tbl0_ok mixed 60 _ _ _ _ _ _ (sameR_eq run_find2))
theorem tb3_ok : CallOk Try.prog tb3 := callOk_put tb2_ok (gRun_ok tbl0_ok mixed 60 _ _ _ _ _ _ (sameR_eq run_find3))
theorem run_lives : sameR (gRun Try.prog tb3 [] 60 21 [] []) (.atom (.bool true), [], []) = true := by kernel_rfl
theorem lives_pure : Pure Try.prog 21 [] (.atom (.bool true)) [] := run_pure (x := (.atom (.bool true), [], [])) tb3_ok mixed run_lives rfl
theorem proved_law (l m : List Int) (how by_ : Int) (hl : Fits l) (hm : Fits m) (hh : I64 how) (hb : I64 by_) :
    Pure Try.prog 6 [ints l, ints m, encI how, encI by_] (.atom (.bool true)) [] := proved_pure l m how by_ hl hm hh hb lives_pure
end Go.Proofs.Ytcdeilgijleoaaa
namespace Go.Proofs.Ytcdeilgijleoaaa
open Go Go.RowKit Go.ChangeShapes Go.WideShapes Go.ChangeAt Go.Deep
section
variable {H : Type} {enc : TypeId × Value → H} {P : Program} {W : World} {sp : Nat → Bool} {held : Bool}
def oldF (W : World) : Nat → Prop := fun b => b < W.heap.size
def IsPv (W : World) (p : PV) (v : Value) : Prop := ∀ (D : Nat → Prop) (μ : Nat → Option Nat), Rep D μ (oldF W) W p v
theorem IsPv.atom (W : World) (v : Value) : IsPv W (.atom v) v := fun _ _ => .atom v
theorem spot_of {t e : TypeId} {base len cap : Nat} {a : Addr} (ht : P.underlying t = some (.slice e)) (h : Value.okWide P W .any base t (.slice (some a) len cap)) : a.spot = none := by
  simp only [Value.okWide, ht, Cell.okWide, Cell.ok] at h
  exact h.2.2.2.1
theorem isPv_nil (W : World) (sz : Nat) : IsPv W (.sl sz []) (.slice none 0 0) := fun _ _ => .sl0 sz none 0 (Nat.zero_le _) (fun _ => rfl) (fun x hx => by cases hx)
theorem isPv_row {W : World} {sz : Nat} {l : List PV} {a : Addr} {len cap : Nat} (hs : a.spot = none) (hl : l.length = len) (hlc : len ≤ cap) (hc : cap ≤ maxLen) (hsz : 0 < sz) (g : Nat → Value) (hg : ∀ j, j < len * sz → W.cell? ⟨a.block, a.off + j, none⟩ = some (g j))
    (h1 : ∀ k (h : k < l.length), l[k].cells.length = sz) (h2 : ∀ k (h : k < l.length) c (hc : c < l[k].cells.length), l[k].cells[c] = .atom (g (k * sz + c))) : IsPv W (.sl sz l) (.slice (some a) len cap) := fun D μ => by
  subst hl
  obtain ⟨b, off, spot⟩ := a
  simp only at hs hg
  subst hs
  by_cases h0 : l = []
  · subst h0
    exact .sl0 sz _ cap hc (fun h => by cases h) (fun x hx => by cases hx; rfl)
  · have hpos : 0 < l.length := List.length_pos_iff.2 h0
    have hlt : b < W.heap.size := World.block_lt_of_cell? W _ (hg 0 (Nat.mul_pos hpos hsz))
    exact .sl sz l b off cap g hlt hlc hc hg h1 (fun k h c hc => by rw [h2 k h c hc]; exact .atom _)
theorem add_none {a : Addr} (hs : a.spot = none) (n : Nat) : a.add n = ⟨a.block, a.off + n, none⟩ := by
  obtain ⟨b, off, spot⟩ := a
  simp only at hs
  subst hs
  unfold Addr.add
  split <;> simp_all
theorem open_pv_ints {t e : TypeId} {v : Value} {d : DataW H} {ps : List MemPlace} (ht : P.underlying t = some (.slice e)) (he : P.underlying e = some (.int .i64)) (hc : P.cellsOf e = 1)
    {b0 : Nat} (hv : Value.okWide P W .any b0 t v) (h : DataW.Trod enc P W 0 sp held t v d ps) : ∃ l : List Int, Fits l ∧ IsPv W (ints l) v := by
  obtain ⟨a0, len, cap, rfl⟩ := okWide_slice ht hv
  obtain ⟨fuel, hf⟩ := h
  rcases open_ints ht he hc hf with ⟨hcs, hx⟩ | ⟨a, len', cap', zs, hcs, _, hl, hm, hz, hx, hcell, hwf⟩
  · simp [Value.cells] at hcs
    obtain ⟨rfl, rfl, rfl⟩ := hcs
    exact ⟨[], ⟨fun x hx => (by cases hx), by simp⟩, isPv_nil W 1⟩
  · simp [Value.cells] at hcs
    obtain ⟨rfl, rfl, rfl⟩ := hcs
    have hzl : len ≤ zs.length := by rw [hz]; split <;> omega
    have hs := spot_of ht hv
    refine ⟨zs.take len, ⟨fun x hx => ?_, ?_⟩, ?_⟩
    · have := hwf x (List.mem_of_mem_take hx)
      simpa [Lit.wf, IntKind.min, IntKind.max, IntKind.signed, IntKind.bits, I64] using this
    · have : maxLen = 9223372036854775807 := by decide
      simp only [List.length_take]; omega
    · refine isPv_row (sz := 1) hs (by simp; omega) hl hm Nat.one_pos (fun j => .int .i64 (zs.getD j 0)) (fun j hj => ?_) (fun k hk => by simp [encI, PV.cells]) (fun k hk c hcc => ?_)
      · have := hcell j (by omega)
        rw [add_none hs] at this; exact this
      · have hk' : k < len ∧ k < zs.length := by have := hk; simp at this; omega
        have e0 : ((zs.take len).map encI)[k] = encI (zs.getD k 0) := by simp [List.getD_eq_getElem?_getD, hk'.2]
        have e1 : ((zs.take len).map encI)[k].cells = [encI (zs.getD k 0)] := by rw [e0]; rfl
        have hc0 : c = 0 := by rw [e1] at hcc; simpa using hcc
        subst hc0
        rw [gl e1 hcc]
        simp [encI]
theorem Pure.calls {f : FuncId} {args : List PV} (h : Pure P f args (.atom (.bool true)) []) {vs : Array Value} (hl : vs.size = args.length) (hv : ∀ i (h : i < args.length), IsPv W args[i] (vs.getD i undef)) :
    Calls P f vs W fun e W' => e = .returned (.bool true) ∧ Below W.heap.size W W' := by
  refine (h.2 (fun _ => False) (fun _ => none) (oldF W) W vs hl (fun i hi => hv i hi _ _) (fun b hb => hb)).mono fun e W' ⟨v, he, hb, ν, F', hr, _⟩ => ?_
  refine ⟨?_, hb⟩
  cases hr
  exact he
theorem Below.trods (hl : laidOutB P = true) {W' : World} (hb : Below W.heap.size W W') : ∀ (ts : List TypeId) (vs : List Value) (ds : List (DataW H)) (ps : List MemPlace), (∀ t, t ∈ ts → P.readableRec t = true ∧ t < P.types.size) → (∀ x, x ∈ ps → x.block < W.heap.size) →
    DataW.TrodAll enc P W 0 (fun _ => true) true ts vs ds ps → DataW.TrodAll enc P W' 0 (fun b => decide (b < W.heap.size)) true ts vs ds ps
  | [], [], [], ps, _, _, h => h
  | t :: ts, v :: vs, d :: ds, ps, ht, hp, ⟨p, q, h1, h2, e⟩ => by
    subst e
    exact ⟨p, q, Below.trod hl (ht t (List.mem_cons_self ..)).1 (ht t (List.mem_cons_self ..)).2 h1 hb (fun x hx => hp x (List.mem_append_left _ hx)),
      Below.trods hl hb ts vs ds q (fun t h => ht t (List.mem_cons_of_mem _ h)) (fun x hx => hp x (List.mem_append_right _ hx)) h2, rfl⟩
  | [], _ :: _, _, _, _, _, h => h.elim
  | [], [], _ :: _, _, _, _, h => h.elim
  | _ :: _, [], _, _, _, _, h => h.elim
  | _ :: _, _ :: _, [], _, _, _, h => h.elim
end
end Go.Proofs.Ytcdeilgijleoaaa
