/-
  Walks: sets (as a contract), Best of the reference model.
-/
import Derived.Test.YtcdeilgijleoaaaWA1
import Derived.Test.YtcdeilgijleoaaaWA2
import Derived.Test.YtcdeilgijleoaaaWB27
import Derived.Test.YtcdeilgijleoaaaWA4
set_option linter.all false
namespace Go.Proofs.Ytcdeilgijleoaaa
open Go Go.RowKit
set_option maxRecDepth 20000
set_option maxHeartbeats 1000000
theorem leqB14 {p : Prop} (h : p := by (refine ⟨4, ?_, ?_, rfl, by simp, rfl, fun _ h _ => absurd h (Nat.not_lt_zero _)⟩ <;> (simp only [List.forall_mem_cons]; repeat' (first | refine And.intro ?_ ?_ | (intro p hp; exact absurd hp List.not_mem_nil) | rfl | exact sp (pure_case _) | exact sp (pure_pairs _) | exact sp (pure_rowsI _) | exact sp (pure_cert _) | exact (sealed_pure _ _ _ (pure_ints _)).trans (ren_ints _ _).symm | exact (sealed_pure _ _ _ (pure_strs _)).trans (ren_strs _ _).symm | exact sp (by assumption) | (intro o ho; cases ho; refine ⟨by decide, ?_⟩; first | (refine LeqS.row rfl ?_ ?_; (next => (first | rfl | (simp only [List.map_append, List.map_cons, List.map_nil, List.append_nil, List.nil_append, List.append_assoc, List.cons_append, encI, encS, ints, strs]; done) | (simp [encI, encS, ints, strs, encP]; done))); (next => (first | rfl | exact pureL_encI _ | exact pureL_encS _ | exact pureL_ints _ | exact pureL_strs _ | exact pureL_encP _ | (simp [pureL_append, pureL_encI, pureL_encS, pureL_ints, pureL_strs, pureL, PV.pure, pure_ints, pure_strs, pure_case, pureL_encP, pure_pairs, pure_rowsI, pure_cert]; done))); done) | refine ⟨_, rfl, rfl, ?_⟩) | (simp [St.born, St.known, retV, St.get, St.obj, lk, sealed, PV.ren, renL, rmap, AO.ren, ints, strs, encI, encS, map_sealed_encI, map_sealed_encS, map_sealed_ints, map_sealed_strs, map_ren_encI, map_ren_encS, map_ren_ints, map_ren_strs, renL_encI, renL_encS, renL_ints, renL_strs, ren_case, encC, pairs, renL_encP, map_sealed_encP, map_ren_encP, encP, take_map_len, ren_rowsI, encCert] <;> omega)))); first | done | fail) : p := h
theorem pure_rowsI (K : List (List Int)) : (rowsI K).pure = true := pureL_map ints pure_ints K
theorem ren_rowsI (ρ : Nat → Nat) (K : List (List Int)) : (rowsI K).ren ρ = rowsI K := ren_pure ρ _ (pure_rowsI K)
theorem pure_cert (x : CertD) : (encCert x).pure = true := by simp [encCert, PV.pure, pureL, pure_ints, encI]
theorem sets_seal (K : List (List Int)) : sealed (fun i => (setsO K)[i]?) (fun _ => false) 4 (.ob 0 1 0 K.length) = rowsI K := by
  have hrow : ∀ i, i < K.length → sealed (fun i => (setsO K)[i]?) (fun _ => false) 3 (PV.ob (i + 1) 1 0 (K.getD i []).length) = ints (K.getD i []) := fun i hi => by
    have h1 : (setsO K)[i + 1]? = some ⟨1, (K.getD i []).map encI⟩ := by
      unfold setsO
      rw [List.getElem?_cons_succ, List.getElem?_map, List.getElem?_eq_getElem hi]
      simp [List.getD_eq_getElem?_getD, hi]
    exact seal_row h1 rfl (by simp) (pureL_encI _)
  have h0 : (setsO K)[0]? = some ⟨1, (List.range K.length).map fun i => PV.ob (i + 1) 1 0 (K.getD i []).length⟩ := rfl
  simp only [sealed, h0]
  simp only [Bool.false_eq_true, if_false, Nat.zero_add, List.length_map, List.length_range, Nat.le_refl, and_self, if_true, List.drop_zero]
  rw [List.take_of_length_le (by simp)]
  unfold rowsI
  congr 1
  apply List.ext_getElem
  · simp
  · intro i h1 h2
    have hi : i < K.length := by simpa using h1
    have := hrow i hi
    simp only [sealed] at this ⊢
    simp only [List.getElem_map, List.getElem_range]
    rw [show K[i] = K.getD i [] by simp [List.getD_eq_getElem?_getD, hi]]
    exact this
theorem sets_of {n : Nat} (h : sameR (gRun Try.prog tbl0 [] 60 60 [encI n] []) (setsR n) = true) : Pure Try.prog 60 [encI n] (rowsI (setsN n)) [] :=
  (run_pure tbl0_ok mixed h rfl).freeze 4 (sets_seal _) (pure_rowsI _)
theorem sets_pure {n : Int} (h2 : 2 ≤ n) (h6 : n ≤ 6) : Pure Try.prog 60 [encI n] (rowsI (setsN n.toNat)) [] := by
  obtain rfl | rfl | rfl | rfl | rfl : n = 2 ∨ n = 3 ∨ n = 4 ∨ n = 5 ∨ n = 6 := by omega
  · exact sets_of (n := 2) run_sets2
  · exact sets_of (n := 3) run_sets3
  · exact sets_of (n := 4) run_sets4
  · exact sets_of (n := 5) run_sets5
  · exact sets_of (n := 6) run_sets6
theorem sets_all : ∀ n : Fin 7, (setsN n.1).length < 64 ∧ ∀ l, l ∈ setsN n.1 → 0 < l.length ∧ l.length ≤ 6 ∧ incS n.1 l = true := by decide +kernel
theorem sets_len {n : Nat} (h : n ≤ 6) : (setsN n).length < 64 := (sets_all ⟨n, by omega⟩).1
theorem sets_mem {n : Nat} (h : n ≤ 6) {l : List Int} (hl : l ∈ setsN n) : 0 < l.length ∧ l.length ≤ 6 ∧ incS n l = true := (sets_all ⟨n, by omega⟩).2 l hl
def bestI (c : CaseD) : Nat → Option CertD
  | 0 => none
  | i + 1 => match bestI c i with
    | none => some ⟨[(i : Int)], [], li c.sizes i⟩
    | some y => if y.least < li c.sizes i then some ⟨[(i : Int)], [], li c.sizes i⟩ else some y
def someS (c : CaseD) (l : List Int) : Nat → List Int
  | 0 => []
  | i + 1 => someS c l i ++ if 0 < needS c i l then [(i : Int)] else []
def setX (c : CaseD) (l : List Int) : CertD := ⟨someS c l c.sizes.length, l, countedS c (someS c l c.sizes.length) l⟩
def bestK (c : CaseD) (K : List (List Int)) : Nat → Option CertD
  | 0 => bestI c c.sizes.length
  | k + 1 => match bestK c K k with
    | none => some (setX c (K.getD k []))
    | some y => if y.least < (setX c (K.getD k [])).least then some (setX c (K.getD k [])) else some y
def orC (x : Option CertD) : CertD := x.getD ⟨[], [], 0⟩
def bestS (c : CaseD) : CertD := orC (bestK c (setsN c.people.toNat) (setsN c.people.toNat).length)
theorem someS_len (c : CaseD) (l : List Int) : ∀ i, (someS c l i).length ≤ i
  | 0 => Nat.le_refl _
  | i + 1 => by have := someS_len c l i; rw [someS, List.length_append]; split <;> simp <;> omega
theorem someS_mem {c : CaseD} {l : List Int} : ∀ {i : Nat} {x : Int}, x ∈ someS c l i → 0 ≤ x ∧ x < i
  | 0, x, h => by cases h
  | i + 1, x, h => by
    rw [someS] at h
    rcases List.mem_append.1 h with h | h
    · have := someS_mem h; omega
    · split at h
      · rw [List.mem_singleton.1 h]; omega
      · cases h
theorem bestI_none {c : CaseD} {i : Nat} (h : bestI c i = none) : bestI c (i + 1) = some ⟨[(i : Int)], [], li c.sizes i⟩ := by rw [bestI, h]
theorem bestI_up {c : CaseD} {i : Nat} {y : CertD} (h : bestI c i = some y) (hl : y.least < li c.sizes i) : bestI c (i + 1) = some ⟨[(i : Int)], [], li c.sizes i⟩ := by rw [bestI, h]; exact if_pos hl
theorem bestI_stay {c : CaseD} {i : Nat} {y : CertD} (h : bestI c i = some y) (hl : ¬ y.least < li c.sizes i) : bestI c (i + 1) = some y := by rw [bestI, h]; exact if_neg hl
theorem bestK_none {c : CaseD} {K : List (List Int)} {k : Nat} (h : bestK c K k = none) : bestK c K (k + 1) = some (setX c (K.getD k [])) := by rw [bestK, h]
theorem bestK_up {c : CaseD} {K : List (List Int)} {k : Nat} {y : CertD} (h : bestK c K k = some y) (hl : y.least < (setX c (K.getD k [])).least) : bestK c K (k + 1) = some (setX c (K.getD k [])) := by rw [bestK, h]; exact if_pos hl
theorem bestK_stay {c : CaseD} {K : List (List Int)} {k : Nat} {y : CertD} (h : bestK c K k = some y) (hl : ¬ y.least < (setX c (K.getD k [])).least) : bestK c K (k + 1) = some y := by rw [bestK, h]; exact if_neg hl
def zeroCert : PV := .agg [.atom (.slice none 0 0), .atom (.slice none 0 0), .atom (.int .i64 0)]
theorem Best_pure (c : CaseD) (hc : Held c) (hG : Good c) : Pure Try.prog 39 [encC c] (encCert (bestS c)) [] := by
  have hmany := hG.many
  have hlo := hG.lo
  have hhi := hG.hi
  have hKl := sets_len (n := c.people.toNat) (by omega)
  have hKm := fun l => sets_mem (n := c.people.toNat) (by omega) (l := l)
  have hS := sets_pure hlo hhi
  have hfin : bestS c = orC (bestK c (setsN c.people.toNat) (setsN c.people.toNat).length) := rfl
  generalize setsN c.people.toNat = Z at hKl hKm hS hfin
  refine Pure.introR (rv := [.cell 2 31]) Try.func39 (by kernel_rfl) rfl rfl rfl (Nat.le_of_ble_eq_true rfl) ?_ ?_
  · simp [pure_case, encI, PV.pure, pureL]
  refine sZ [1, 2] (fun P S K => XvBox S.nx (S.get 0) (fun r0 ef0 => XvAlloc P 31 (S.nx + ef0.add.length) (fun r1 ef1 => K ⟨[(1, r0), (2, r1)], (Eff.hp ef1 (S.nx + ef0.add.length) (Eff.hp ef0 S.nx S.hp)), ((S.nx + ef0.add.length) + ef1.add.length), S.gh⟩))) fun K hK => ?_
  repeat' (first | (refine hK _ ?_; clear hK K) | refine And.intro ?_ ?_ | exact cl | exact one_encP _ | exact flat_encI _ | (refine st ?_; try simp only [encC, pairs, rowsI, encCert, zeroCert, orC, Option.getD_some, Option.getD_none, Option.isSome_some, Option.isSome_none]) | simp only [encC, pairs, rowsI, encCert, zeroCert, orC, Option.getD_some, Option.getD_none, Option.isSome_some, Option.isSome_none])
  all_goals
  refine sZ [1, 2, 3] (fun P S K => XvAlloc P 31 S.nx (fun r0 ef0 => K ⟨[(1, S.get 1), (2, S.get 2), (3, r0)], (Eff.hp ef0 S.nx S.hp), (S.nx + ef0.add.length), S.gh⟩)) fun K hK => ?_
  repeat' (first | (refine hK _ ?_; clear hK K) | refine And.intro ?_ ?_ | exact cl | exact one_encP _ | exact flat_encI _ | (refine st ?_; try simp only [encC, pairs, rowsI, encCert, zeroCert, orC, Option.getD_some, Option.getD_none, Option.isSome_some, Option.isSome_none]) | simp only [encC, pairs, rowsI, encCert, zeroCert, orC, Option.getD_some, Option.getD_none, Option.isSome_some, Option.isSome_none])
  refine Tri.nilF 2 0 1 3 _ rfl rfl ?_
  refine Tri.nilF 2 1 1 3 _ rfl rfl ?_
  all_goals
  refine sZ [1, 2, 3, 4] (fun P S K => K ⟨[(1, S.get 1), (2, S.get 2), (3, S.get 3), (4, (.atom (.bool false)))], S.hp, S.nx, S.gh⟩) fun K hK => ?_
  repeat' (first | (refine hK _ ?_; clear hK K) | refine And.intro ?_ ?_ | exact cl | exact one_encP _ | exact flat_encI _ | (refine st ?_; try simp only [encC, pairs, rowsI, encCert, zeroCert, orC, Option.getD_some, Option.getD_none, Option.isSome_some, Option.isSome_none]) | simp only [encC, pairs, rowsI, encCert, zeroCert, orC, Option.getD_some, Option.getD_none, Option.isSome_some, Option.isSome_none])
  all_goals
  refine Tri.seq ?_
  refine sZ [1, 2, 3, 4, 5] (fun P S K => K ⟨[(1, S.get 1), (2, S.get 2), (3, S.get 3), (4, S.get 4), (5, (.atom (.int .i64 0)))], S.hp, S.nx, S.gh⟩) fun K hK => ?_
  repeat' (first | (refine hK _ ?_; clear hK K) | refine And.intro ?_ ?_ | exact cl | exact one_encP _ | exact flat_encI _ | (refine st ?_; try simp only [encC, pairs, rowsI, encCert, zeroCert, orC, Option.getD_some, Option.getD_none, Option.isSome_some, Option.isSome_none]) | simp only [encC, pairs, rowsI, encCert, zeroCert, orC, Option.getD_some, Option.getD_none, Option.isSome_some, Option.isSome_none])
  all_goals
  refine Tri.block ?_
  refine Tri.loop (α := (i : Nat) ×' (i ≤ c.sizes.length)) (fun z => (fun (i : Nat) => (⟨[(1, .ptr 0 3 0 0), (2, .ptr 1 3 0 0), (3, .ptr 2 3 0 0), (4, .atom (.bool (bestI c i).isSome)), (5, encI i)], [(0, some ⟨3, [encC c]⟩), (1, some ⟨3, [zeroCert]⟩), (2, some ⟨3, [encCert (orC (bestI c i))]⟩)], 3, []⟩ : St)) z.1) (fun z => (fun (i : Nat) => c.sizes.length - i) z.1) ⟨0, Nat.zero_le _⟩ [0, 1, 2] ?_ ?_
  ·exact leqB14
  ·rintro ⟨i, hi⟩
   refine Tri.seq ?_
   refine sZ [1, 2, 3, 4, 5, 14] (fun P S K => XvFieldAddr P 25 0 (S.get 1) (fun r1 _ => XvLoad P 22 (M S.hp S.nx) r1 (fun r2 _ => XvLen P 22 r2 (fun r3 _ => XvBinOV P .lss 3 (.tmp 13) (S.get 5) r3 (fun r4 _ => K ⟨[(1, S.get 1), (2, S.get 2), (3, S.get 3), (4, S.get 4), (5, S.get 5), (14, r4)], S.hp, S.nx, S.gh⟩))))) fun K hK => ?_
   repeat' (first | (refine hK _ ?_; clear hK K) | refine And.intro ?_ ?_ | exact cl | exact one_encP _ | exact flat_encI _ | refine one_take ?_ _ | refine one_drop ?_ _ | (refine st ?_; try simp only [encC, pairs, rowsI, encCert, zeroCert, orC, Option.getD_some, Option.getD_none, Option.isSome_some, Option.isSome_none]) | simp only [encC, pairs, rowsI, encCert, zeroCert, orC, Option.getD_some, Option.getD_none, Option.isSome_some, Option.isSome_none])
   all_goals
   refine Tri.cond rfl (fun h14 => ?_) (fun h14 => ?_)
   ·try (cases h14; done)
    all_goals (try simp only [CQ] at h14)
    all_goals
    refine Tri.skip ?_
    refine Tri.seq ?_
    refine Tri.block ?_
    have hil : i < c.sizes.length := by omega
    rcases hsi : bestI c i with _ | y
    all_goals
    refine sD 12 [1, 2, 3, 4, 5, 28] (fun P GD S K => XvUn .not (S.get 4) (fun r1 ef1 => Xge r1 false (fun k => XvFieldAddr P 25 0 (S.get 1) k) (fun g3 r3 ef3 => Xge g3 false (fun k => XvLoad P 22 (M S.hp S.nx) r3 k) (fun g4 r4 ef4 => Xge g4 false (fun k => k (S.get 5) e0) (fun g5 r5 ef5 => Xge g5 false (fun k => XvIndexAddr P 22 r4 r5 k) (fun g6 r6 ef6 => Xge g6 false (fun k => XvLoad P 3 (M S.hp S.nx) r6 k) (fun g7 r7 ef7 => Xge g7 false (fun k => XvFieldAddr P 31 2 (S.get 3) k) (fun g8 r8 ef8 => Xge g8 false (fun k => XvLoad P 3 (M S.hp S.nx) r8 k) (fun g9 r9 ef9 => Xge g9 false (fun k => XvBinOV P .gtr 3 (.tmp 26) r7 r9 k) (fun g10 r10 ef10 => XvPick g10 (.atom (.bool true)) r10 (fun r11 ef11 => (trOk S.nx GD [⟨S.nx, 0, [], [], []⟩, ⟨S.nx, 0, ef1.rd, [], []⟩, ⟨S.nx, 0, [], [], []⟩, ⟨S.nx, 0, ef3.rd, [], []⟩, ⟨S.nx, 0, ef4.rd, [], []⟩, ⟨S.nx, 0, ef5.rd, [], []⟩, ⟨S.nx, 0, ef6.rd, [], []⟩, ⟨S.nx, 0, ef7.rd, [], []⟩, ⟨S.nx, 0, ef8.rd, [], []⟩, ⟨S.nx, 0, ef9.rd, [], []⟩, ⟨S.nx, 0, ef10.rd, [], []⟩, ⟨S.nx, 0, ef11.rd, [], []⟩] = true ∧ K ⟨[(1, S.get 1), (2, S.get 2), (3, S.get 3), (4, S.get 4), (5, S.get 5), (28, r11)], S.hp, S.nx, S.gh⟩)))))))))))) fun K hK => ?_
    repeat' (first | (refine hK _ ?_; clear hK K) | (refine (?_ : trOk _ _ _ = true); kernel_rfl) | ((first | refine xG_intro (fun hg => ?_) (fun hg => ?_) | refine fun (hg : (_ : Prop)) => ?_) <;> ((try simp only [BQ] at hg); try (exfalso; omega))) | refine And.intro ?_ ?_ | exact cl | exact one_encP _ | exact flat_encI _ | refine one_take ?_ _ | refine one_drop ?_ _ | (refine st ?_; try simp only [encC, pairs, rowsI, encCert, zeroCert, orC, Option.getD_some, Option.getD_none, Option.isSome_some, Option.isSome_none, getD_encI hil]) | simp only [encC, pairs, rowsI, encCert, zeroCert, orC, Option.getD_some, Option.getD_none, Option.isSome_some, Option.isSome_none, getD_encI hil])
    all_goals try simp (disch := omega) only [wrap_id, wrap8_id]
    all_goals
    refine Tri.cond rfl (fun h28 => ?_) (fun h28 => ?_)
    ·try (cases h28; done)
     all_goals (try simp only [CQ] at h28)
     all_goals
     refine sZ [1, 2, 3, 5] (fun P S K => XvBuildS P 22 1 S.nx [(0, (S.get 5))] (fun r1 ef1 => XvFieldAddr P 25 0 (S.get 1) (fun r2 _ => XvLoad P 22 (M (Eff.hp ef1 S.nx S.hp) (S.nx + ef1.add.length)) r2 (fun r3 _ => XvIndexAddr P 22 r3 (S.get 5) (fun r5 _ => XvLoad P 3 (M (Eff.hp ef1 S.nx S.hp) (S.nx + ef1.add.length)) r5 (fun r6 _ => XvBuild P 31 [(0, r1), (2, r6)] (fun r7 _ => XvStore P 31 (M (Eff.hp ef1 S.nx S.hp) (S.nx + ef1.add.length)) (S.get 3) r7 (fun r8 ef8 => K ⟨[(1, S.get 1), (2, S.get 2), (3, S.get 3), (5, S.get 5)], (Eff.hp ef8 (S.nx + ef1.add.length) (Eff.hp ef1 S.nx S.hp)), ((S.nx + ef1.add.length) + ef8.add.length), S.gh⟩)))))))) fun K hK => ?_
     repeat' (first | (refine hK _ ?_; clear hK K) | refine And.intro ?_ ?_ | exact cl | exact one_encP _ | exact flat_encI _ | refine one_take ?_ _ | refine one_drop ?_ _ | (refine st ?_; try simp only [encC, pairs, rowsI, encCert, zeroCert, orC, Option.getD_some, Option.getD_none, Option.isSome_some, Option.isSome_none, getD_encI hil]) | simp only [encC, pairs, rowsI, encCert, zeroCert, orC, Option.getD_some, Option.getD_none, Option.isSome_some, Option.isSome_none, getD_encI hil])
     refine Tri.nilF 2 1 1 3 _ rfl rfl ?_
     all_goals
     refine rZ [1, 2, 3, 4, 5] (fun P S K => K ⟨[(1, S.get 1), (2, S.get 2), (3, S.get 3), (4, (.atom (.bool true))), (5, S.get 5)], S.hp, S.nx, S.gh⟩) fun K hK => ?_
     repeat' (first | (refine hK _ ?_; clear hK K) | refine And.intro ?_ ?_ | exact cl | exact one_encP _ | exact flat_encI _ | (refine st ?_; try simp only [encC, pairs, rowsI, encCert, zeroCert, orC, Option.getD_some, Option.getD_none, Option.isSome_some, Option.isSome_none]) | simp only [encC, pairs, rowsI, encCert, zeroCert, orC, Option.getD_some, Option.getD_none, Option.isSome_some, Option.isSome_none])
     all_goals
     refine rZ [1, 2, 3, 4, 5] (fun P S K => XvBinOV P .add 3 (.const (.int .i64 1)) (S.get 5) (.atom (.int .i64 1)) (fun r1 _ => K ⟨[(1, S.get 1), (2, S.get 2), (3, S.get 3), (4, S.get 4), (5, r1)], S.hp, S.nx, S.gh⟩)) fun K hK => ?_
     repeat' (first | (refine hK _ ?_; clear hK K) | refine And.intro ?_ ?_ | exact cl | exact one_encP _ | exact flat_encI _ | (refine st ?_; try simp only [encC, pairs, rowsI, encCert, zeroCert, orC, Option.getD_some, Option.getD_none, Option.isSome_some, Option.isSome_none]) | simp only [encC, pairs, rowsI, encCert, zeroCert, orC, Option.getD_some, Option.getD_none, Option.isSome_some, Option.isSome_none])
     all_goals try simp (disch := omega) only [wrap_id, wrap8_id]
     all_goals
     first
     | (refine ⟨⟨i + 1, by omega⟩, [0, 1, 2], by dsimp only; omega, ?_⟩; dsimp only; rw [bestI_none hsi]; exact leqB14)
     | (refine ⟨⟨i + 1, by omega⟩, [0, 1, 2], by dsimp only; omega, ?_⟩; dsimp only; rw [bestI_up hsi (by assumption)]; exact leqB14)
     | (refine ⟨⟨i + 1, by omega⟩, [0, 1, 2], by dsimp only; omega, ?_⟩; dsimp only; rw [bestI_stay hsi (by assumption)]; exact leqB14)
    ·try (cases h28; done)
     all_goals (try simp only [CQ] at h28)
     all_goals
     refine Tri.skip ?_
     refine rZ [1, 2, 3, 4, 5] (fun P S K => XvBinOV P .add 3 (.const (.int .i64 1)) (S.get 5) (.atom (.int .i64 1)) (fun r1 _ => K ⟨[(1, S.get 1), (2, S.get 2), (3, S.get 3), (4, S.get 4), (5, r1)], S.hp, S.nx, S.gh⟩)) fun K hK => ?_
     repeat' (first | (refine hK _ ?_; clear hK K) | refine And.intro ?_ ?_ | exact cl | exact one_encP _ | exact flat_encI _ | (refine st ?_; try simp only [encC, pairs, rowsI, encCert, zeroCert, orC, Option.getD_some, Option.getD_none, Option.isSome_some, Option.isSome_none]) | simp only [encC, pairs, rowsI, encCert, zeroCert, orC, Option.getD_some, Option.getD_none, Option.isSome_some, Option.isSome_none])
     all_goals try simp (disch := omega) only [wrap_id, wrap8_id]
     all_goals
     first
     | (refine ⟨⟨i + 1, by omega⟩, [0, 1, 2], by dsimp only; omega, ?_⟩; dsimp only; rw [bestI_none hsi]; exact leqB14)
     | (refine ⟨⟨i + 1, by omega⟩, [0, 1, 2], by dsimp only; omega, ?_⟩; dsimp only; rw [bestI_up hsi (by assumption)]; exact leqB14)
     | (refine ⟨⟨i + 1, by omega⟩, [0, 1, 2], by dsimp only; omega, ?_⟩; dsimp only; rw [bestI_stay hsi (by assumption)]; exact leqB14)
   ·try (cases h14; done)
    all_goals (try simp only [CQ] at h14)
    all_goals
    refine Tri.exit ?_
    obtain rfl : i = c.sizes.length := by omega
    rw [show bestI c c.sizes.length = bestK c Z 0 from rfl]
    refine sZ [1, 2, 3, 4, 6] (fun P S K => XvFieldAddr P 25 1 (S.get 1) (fun r0 _ => XvLoad P 3 (M S.hp S.nx) r0 (fun r1 _ => XvFnIV P (M S.hp S.nx) (.fn 60 []) [r1] (fun r2 ef2 => K ⟨[(1, S.get 1), (2, S.get 2), (3, S.get 3), (4, S.get 4), (6, r2)], (Eff.hp ef2 S.nx S.hp), (S.nx + ef2.add.length), S.gh⟩)))) fun K hK => ?_
    repeat' (first | (refine hK _ ?_; clear hK K) | refine And.intro ?_ ?_ | exact cl | exact one_encP _ | exact flat_encI _ | refine one_take ?_ _ | refine one_drop ?_ _ | refine .inl ⟨_, _, hS, ?_⟩ | (refine st ?_; try simp only [encC, pairs, rowsI, encCert, zeroCert, orC, Option.getD_some, Option.getD_none, Option.isSome_some, Option.isSome_none]) | simp only [encC, pairs, rowsI, encCert, zeroCert, orC, Option.getD_some, Option.getD_none, Option.isSome_some, Option.isSome_none])
    all_goals
    refine Tri.seq ?_
    refine sZ [1, 2, 3, 4, 6, 7] (fun P S K => K ⟨[(1, S.get 1), (2, S.get 2), (3, S.get 3), (4, S.get 4), (6, S.get 6), (7, (.atom (.int .i64 0)))], S.hp, S.nx, S.gh⟩) fun K hK => ?_
    repeat' (first | (refine hK _ ?_; clear hK K) | refine And.intro ?_ ?_ | exact cl | exact one_encP _ | exact flat_encI _ | (refine st ?_; try simp only [encC, pairs, rowsI, encCert, zeroCert, orC, Option.getD_some, Option.getD_none, Option.isSome_some, Option.isSome_none]) | simp only [encC, pairs, rowsI, encCert, zeroCert, orC, Option.getD_some, Option.getD_none, Option.isSome_some, Option.isSome_none])
    all_goals
    refine Tri.block ?_
    refine Tri.loop (α := (k : Nat) ×' (k ≤ Z.length)) (fun z => (fun (k : Nat) => (⟨[(1, .ptr 0 3 0 0), (2, .ptr 1 3 0 0), (3, .ptr 2 3 0 0), (4, .atom (.bool (bestK c Z k).isSome)), (6, rowsI Z), (7, encI k)], [(0, some ⟨3, [encC c]⟩), (1, some ⟨3, [zeroCert]⟩), (2, some ⟨3, [encCert (orC (bestK c Z k))]⟩)], 3, []⟩ : St)) z.1) (fun z => (fun (k : Nat) => Z.length - k) z.1) ⟨0, Nat.zero_le _⟩ [0, 1, 2] ?_ ?_
    ·exact leqB14
    ·rintro ⟨k, hk⟩
     refine Tri.seq ?_
     refine sZ [1, 2, 3, 4, 6, 7, 43] (fun P S K => XvLen P 95 (S.get 6) (fun r2 _ => XvBinOV P .lss 3 (.tmp 42) (S.get 7) r2 (fun r3 _ => K ⟨[(1, S.get 1), (2, S.get 2), (3, S.get 3), (4, S.get 4), (6, S.get 6), (7, S.get 7), (43, r3)], S.hp, S.nx, S.gh⟩))) fun K hK => ?_
     repeat' (first | (refine hK _ ?_; clear hK K) | refine And.intro ?_ ?_ | exact cl | exact one_encP _ | exact flat_encI _ | (refine st ?_; try simp only [encC, pairs, rowsI, encCert, zeroCert, orC, Option.getD_some, Option.getD_none, Option.isSome_some, Option.isSome_none]) | simp only [encC, pairs, rowsI, encCert, zeroCert, orC, Option.getD_some, Option.getD_none, Option.isSome_some, Option.isSome_none])
     all_goals
     refine Tri.cond rfl (fun h43 => ?_) (fun h43 => ?_)
     ·try (cases h43; done)
      all_goals (try simp only [CQ] at h43)
      all_goals
      refine Tri.skip ?_
      refine Tri.seq ?_
      refine Tri.block ?_
      have hkl : k < Z.length := by omega
      obtain ⟨hl0, hl1, hl2⟩ := hKm (Z.getD k []) (by simp [List.getD_eq_getElem?_getD, hkl])
      refine sZ [1, 2, 3, 4, 6, 7, 8] (fun P S K => XvIndexAddr P 95 (S.get 6) (S.get 7) (fun r2 _ => XvLoad P 22 (M S.hp S.nx) r2 (fun r3 _ => XvBuild P 31 [(1, r3)] (fun r4 _ => XvAlloc P 31 S.nx (fun r5 ef5 => XvStore P 31 (M (Eff.hp ef5 S.nx S.hp) (S.nx + ef5.add.length)) r5 r4 (fun r6 ef6 => K ⟨[(1, S.get 1), (2, S.get 2), (3, S.get 3), (4, S.get 4), (6, S.get 6), (7, S.get 7), (8, r5)], (Eff.hp ef6 (S.nx + ef5.add.length) (Eff.hp ef5 S.nx S.hp)), ((S.nx + ef5.add.length) + ef6.add.length), S.gh⟩)))))) fun K hK => ?_
      repeat' (first | (refine hK _ ?_; clear hK K) | refine And.intro ?_ ?_ | exact cl | exact one_encP _ | exact flat_encI _ | refine one_take ?_ _ | refine one_drop ?_ _ | (refine st ?_; try simp only [encC, pairs, rowsI, encCert, zeroCert, orC, Option.getD_some, Option.getD_none, Option.isSome_some, Option.isSome_none, getD_ints hkl]) | simp only [encC, pairs, rowsI, encCert, zeroCert, orC, Option.getD_some, Option.getD_none, Option.isSome_some, Option.isSome_none, getD_ints hkl])
      refine Tri.bornF 3 0 1 3 _ rfl rfl ?_
      all_goals
      refine Tri.seq ?_
      refine sZ [1, 2, 3, 4, 6, 7, 8, 9] (fun P S K => K ⟨[(1, S.get 1), (2, S.get 2), (3, S.get 3), (4, S.get 4), (6, S.get 6), (7, S.get 7), (8, S.get 8), (9, (.atom (.int .i64 0)))], S.hp, S.nx, S.gh⟩) fun K hK => ?_
      repeat' (first | (refine hK _ ?_; clear hK K) | refine And.intro ?_ ?_ | exact cl | exact one_encP _ | exact flat_encI _ | (refine st ?_; try simp only [encC, pairs, rowsI, encCert, zeroCert, orC, Option.getD_some, Option.getD_none, Option.isSome_some, Option.isSome_none]) | simp only [encC, pairs, rowsI, encCert, zeroCert, orC, Option.getD_some, Option.getD_none, Option.isSome_some, Option.isSome_none])
      all_goals
      refine Tri.block ?_
      refine Tri.loop (α := (xs : List Int) ×' (i : Nat) ×' (i ≤ c.sizes.length ∧ xs = someS c (Z.getD k []) i)) (fun z => (fun (xs : List Int) (i : Nat) => (⟨[(1, .ptr 0 3 0 0), (2, .ptr 1 3 0 0), (3, .ptr 2 3 0 0), (4, .atom (.bool (bestK c Z k).isSome)), (6, rowsI Z), (7, encI k), (8, .ptr 3 3 0 0), (9, encI i)], [(0, some ⟨3, [encC c]⟩), (1, some ⟨3, [zeroCert]⟩), (2, some ⟨3, [encCert (orC (bestK c Z k))]⟩), (3, some ⟨3, [.agg [.ob 4 1 0 xs.length, ints (Z.getD k []), encI 0]]⟩), (4, some ⟨1, xs.map encI⟩)], 5, []⟩ : St)) z.1 z.2.1) (fun z => (fun (xs : List Int) (i : Nat) => c.sizes.length - i) z.1 z.2.1) ⟨[], 0, ⟨Nat.zero_le _, rfl⟩⟩ [0, 1, 2, 3, 4] ?_ ?_
      ·exact leqB14
      ·rintro ⟨xs, i, ⟨hi, hxs⟩⟩
       have hxl := someS_len c (Z.getD k []) i
       rw [← hxs] at hxl
       have hst : someS c (Z.getD k []) (i + 1) = xs ++ if 0 < needS c i (Z.getD k []) then [(i : Int)] else [] := by rw [hxs]; rfl
       refine Tri.seq ?_
       refine sZ [1, 2, 3, 4, 6, 7, 8, 9, 55] (fun P S K => XvFieldAddr P 25 0 (S.get 1) (fun r1 _ => XvLoad P 22 (M S.hp S.nx) r1 (fun r2 _ => XvLen P 22 r2 (fun r3 _ => XvBinOV P .lss 3 (.tmp 54) (S.get 9) r3 (fun r4 _ => K ⟨[(1, S.get 1), (2, S.get 2), (3, S.get 3), (4, S.get 4), (6, S.get 6), (7, S.get 7), (8, S.get 8), (9, S.get 9), (55, r4)], S.hp, S.nx, S.gh⟩))))) fun K hK => ?_
       repeat' (first | (refine hK _ ?_; clear hK K) | refine And.intro ?_ ?_ | exact cl | exact one_encP _ | exact flat_encI _ | refine one_take ?_ _ | refine one_drop ?_ _ | (refine st ?_; try simp only [encC, pairs, rowsI, encCert, zeroCert, orC, Option.getD_some, Option.getD_none, Option.isSome_some, Option.isSome_none]) | simp only [encC, pairs, rowsI, encCert, zeroCert, orC, Option.getD_some, Option.getD_none, Option.isSome_some, Option.isSome_none])
       all_goals
       refine Tri.cond rfl (fun h55 => ?_) (fun h55 => ?_)
       ·try (cases h55; done)
        all_goals (try simp only [CQ] at h55)
        all_goals
        refine Tri.skip ?_
        refine Tri.seq ?_
        refine Tri.block ?_
        refine sD 8 [1, 2, 3, 4, 6, 7, 8, 9, 65] (fun P GD S K => XvLoad P 25 (M S.hp S.nx) (S.get 1) (fun r0 ef0 => XvIndexAddr P 95 (S.get 6) (S.get 7) (fun r4 ef4 => XvLoad P 22 (M S.hp S.nx) r4 (fun r5 ef5 => XvFnV P (M S.hp S.nx) (.fn 61 []) [r0, (S.get 9), r5] (fun r6 ef6 => XvBinOV P .gtr 3 (.const (.int .i64 0)) r6 (.atom (.int .i64 0)) (fun r7 ef7 => (trOk S.nx GD [⟨S.nx, 0, ef0.rd, [], []⟩, ⟨S.nx, 0, [], [], []⟩, ⟨S.nx, 0, [], [], []⟩, ⟨S.nx, 0, [], [], []⟩, ⟨S.nx, 0, ef4.rd, [], []⟩, ⟨S.nx, 0, ef5.rd, [], []⟩, (Eff.tr ef6 S.nx), ⟨(S.nx + ef6.add.length), 0, ef7.rd, [], []⟩] = true ∧ K ⟨[(1, S.get 1), (2, S.get 2), (3, S.get 3), (4, S.get 4), (6, S.get 6), (7, S.get 7), (8, S.get 8), (9, S.get 9), (65, r7)], (Eff.hp ef6 S.nx S.hp), (S.nx + ef6.add.length), S.gh⟩))))))) fun K hK => ?_
        repeat' (first | (refine hK _ ?_; clear hK K) | (refine (?_ : trOk _ _ _ = true); kernel_rfl) | refine And.intro ?_ ?_ | exact cl | exact one_encP _ | exact flat_encI _ | refine one_take ?_ _ | refine one_drop ?_ _ | refine .inl ⟨_, _, Need_pure c hc hG i (Z.getD k []) (by omega), ?_⟩ | refine ⟨_, _, Need_pure c hc hG i (Z.getD k []) (by omega), ?_⟩ | refine .inl ⟨_, _, hS, ?_⟩ | refine ⟨_, _, hS, ?_⟩ | (refine st ?_; try simp only [encC, pairs, rowsI, encCert, zeroCert, orC, Option.getD_some, Option.getD_none, Option.isSome_some, Option.isSome_none, getD_ints hkl]) | simp only [encC, pairs, rowsI, encCert, zeroCert, orC, Option.getD_some, Option.getD_none, Option.isSome_some, Option.isSome_none, getD_ints hkl])
        all_goals
        refine Tri.cond rfl (fun h65 => ?_) (fun h65 => ?_)
        ·try (cases h65; done)
         all_goals (try simp only [CQ] at h65)
         all_goals
         refine rZ [1, 2, 3, 4, 6, 7, 8, 9] (fun P S K => XvFieldAddr P 31 0 (S.get 8) (fun r0 _ => XvLoad P 22 (M S.hp S.nx) r0 (fun r1 _ => XvBuildS P 22 1 S.nx [(0, (S.get 9))] (fun r3 ef3 => (22 = 22 ∧ XvAppend P 22 (M (Eff.hp ef3 S.nx S.hp) (S.nx + ef3.add.length)) r1 r3 (fun r4 ef4 => XvFieldAddr P 31 0 (S.get 8) (fun r5 _ => XvStore P 22 (M (Eff.hp ef4 (S.nx + ef3.add.length) (Eff.hp ef3 S.nx S.hp)) ((S.nx + ef3.add.length) + ef4.add.length)) r5 r4 (fun r6 ef6 => K ⟨[(1, S.get 1), (2, S.get 2), (3, S.get 3), (4, S.get 4), (6, S.get 6), (7, S.get 7), (8, S.get 8), (9, S.get 9)], (Eff.hp ef6 ((S.nx + ef3.add.length) + ef4.add.length) (Eff.hp ef4 (S.nx + ef3.add.length) (Eff.hp ef3 S.nx S.hp))), (((S.nx + ef3.add.length) + ef4.add.length) + ef6.add.length), S.gh⟩)))))))) fun K hK => ?_
         repeat' (first | (refine hK _ ?_; clear hK K) | ((first | refine xG_intro (fun hg => ?_) (fun hg => ?_) | refine fun (hg : (_ : Prop)) => ?_) <;> ((try simp only [BQ] at hg); try (exfalso; omega))) | refine And.intro ?_ ?_ | exact cl | exact one_encP _ | exact flat_encI _ | refine one_take ?_ _ | refine one_drop ?_ _ | (refine st ?_; try simp only [encC, pairs, rowsI, encCert, zeroCert, orC, Option.getD_some, Option.getD_none, Option.isSome_some, Option.isSome_none]) | simp only [encC, pairs, rowsI, encCert, zeroCert, orC, Option.getD_some, Option.getD_none, Option.isSome_some, Option.isSome_none])
         all_goals
         refine rZ [1, 2, 3, 4, 6, 7, 8, 9] (fun P S K => XvBinOV P .add 3 (.const (.int .i64 1)) (S.get 9) (.atom (.int .i64 1)) (fun r1 _ => K ⟨[(1, S.get 1), (2, S.get 2), (3, S.get 3), (4, S.get 4), (6, S.get 6), (7, S.get 7), (8, S.get 8), (9, r1)], S.hp, S.nx, S.gh⟩)) fun K hK => ?_
         repeat' (first | (refine hK _ ?_; clear hK K) | refine And.intro ?_ ?_ | exact cl | exact one_encP _ | exact flat_encI _ | (refine st ?_; try simp only [encC, pairs, rowsI, encCert, zeroCert, orC, Option.getD_some, Option.getD_none, Option.isSome_some, Option.isSome_none]) | simp only [encC, pairs, rowsI, encCert, zeroCert, orC, Option.getD_some, Option.getD_none, Option.isSome_some, Option.isSome_none])
         all_goals try simp (disch := omega) only [wrap_id, wrap8_id]
         all_goals
         first
         | (refine ⟨⟨xs ++ [(i : Int)], i + 1, by omega, by rw [hst, if_pos (by assumption)]⟩, [0, 1, 2, 3, 6], by dsimp only; omega, ?_⟩; exact leqB14)
         | (refine ⟨⟨xs, i + 1, by omega, by rw [hst, if_neg (by assumption), List.append_nil]⟩, [0, 1, 2, 3, 4], by dsimp only; omega, ?_⟩; exact leqB14)
        ·try (cases h65; done)
         all_goals (try simp only [CQ] at h65)
         all_goals
         refine Tri.skip ?_
         refine rZ [1, 2, 3, 4, 6, 7, 8, 9] (fun P S K => XvBinOV P .add 3 (.const (.int .i64 1)) (S.get 9) (.atom (.int .i64 1)) (fun r1 _ => K ⟨[(1, S.get 1), (2, S.get 2), (3, S.get 3), (4, S.get 4), (6, S.get 6), (7, S.get 7), (8, S.get 8), (9, r1)], S.hp, S.nx, S.gh⟩)) fun K hK => ?_
         repeat' (first | (refine hK _ ?_; clear hK K) | refine And.intro ?_ ?_ | exact cl | exact one_encP _ | exact flat_encI _ | (refine st ?_; try simp only [encC, pairs, rowsI, encCert, zeroCert, orC, Option.getD_some, Option.getD_none, Option.isSome_some, Option.isSome_none]) | simp only [encC, pairs, rowsI, encCert, zeroCert, orC, Option.getD_some, Option.getD_none, Option.isSome_some, Option.isSome_none])
         all_goals try simp (disch := omega) only [wrap_id, wrap8_id]
         all_goals
         first
         | (refine ⟨⟨xs ++ [(i : Int)], i + 1, by omega, by rw [hst, if_pos (by assumption)]⟩, [0, 1, 2, 3, 6], by dsimp only; omega, ?_⟩; exact leqB14)
         | (refine ⟨⟨xs, i + 1, by omega, by rw [hst, if_neg (by assumption), List.append_nil]⟩, [0, 1, 2, 3, 4], by dsimp only; omega, ?_⟩; exact leqB14)
       ·try (cases h55; done)
        all_goals (try simp only [CQ] at h55)
        all_goals
        refine Tri.exit ?_
        obtain rfl : i = c.sizes.length := by omega
        have hxm : ∀ x, x ∈ xs → 0 ≤ x ∧ x < c.sizes.length := fun x hx => someS_mem (by rw [← hxs]; exact hx)
        have hX : setX c (Z.getD k []) = ⟨xs, Z.getD k [], countedS c xs (Z.getD k [])⟩ := by rw [hxs]; rfl
        refine sZ [1, 2, 3, 4, 6, 7, 8] (fun P S K => XvLoad P 25 (M S.hp S.nx) (S.get 1) (fun r0 _ => XvFieldAddr P 31 0 (S.get 8) (fun r1 _ => XvLoad P 22 (M S.hp S.nx) r1 (fun r2 _ => XvFieldAddr P 31 1 (S.get 8) (fun r3 _ => XvLoad P 22 (M S.hp S.nx) r3 (fun r4 _ => XvFnIV P (M S.hp S.nx) (.fn 57 []) [r0, r2, r4] (fun r5 ef5 => XvFieldAddr P 31 2 (S.get 8) (fun r6 _ => XvStore P 3 (M (Eff.hp ef5 S.nx S.hp) (S.nx + ef5.add.length)) r6 r5 (fun r7 ef7 => K ⟨[(1, S.get 1), (2, S.get 2), (3, S.get 3), (4, S.get 4), (6, S.get 6), (7, S.get 7), (8, S.get 8)], (Eff.hp ef7 (S.nx + ef5.add.length) (Eff.hp ef5 S.nx S.hp)), ((S.nx + ef5.add.length) + ef7.add.length), S.gh⟩))))))))) fun K hK => ?_
        repeat' (first | (refine hK _ ?_; clear hK K) | refine And.intro ?_ ?_ | exact cl | exact one_encP _ | exact flat_encI _ | refine one_take ?_ _ | refine one_drop ?_ _ | refine .inl ⟨_, _, hS, ?_⟩ | refine .inl ⟨_, _, Counted_pure c hc hG xs (Z.getD k []) hxm (by omega) (by omega) (by omega), ?_⟩ | (refine st ?_; try simp only [encC, pairs, rowsI, encCert, zeroCert, orC, Option.getD_some, Option.getD_none, Option.isSome_some, Option.isSome_none, take_map_len, map_sealed_encI]) | simp only [encC, pairs, rowsI, encCert, zeroCert, orC, Option.getD_some, Option.getD_none, Option.isSome_some, Option.isSome_none, take_map_len, map_sealed_encI])
        all_goals
        rcases hsi : bestK c Z k with _ | y
        all_goals
        refine sZ [1, 2, 3, 4, 6, 7, 8, 87] (fun P S K => XvUn .not (S.get 4) (fun r1 _ => Xgq r1 false (fun k => XvFieldAddr P 31 2 (S.get 8) (fun r3 _ => k r3)) (fun g3 r3 => Xgq g3 false (fun k => XvLoad P 3 (M S.hp S.nx) r3 (fun r4 _ => k r4)) (fun g4 r4 => Xgq g4 false (fun k => XvFieldAddr P 31 2 (S.get 3) (fun r5 _ => k r5)) (fun g5 r5 => Xgq g5 false (fun k => XvLoad P 3 (M S.hp S.nx) r5 (fun r6 _ => k r6)) (fun g6 r6 => Xgq g6 false (fun k => XvBinOV P .gtr 3 (.tmp 85) r4 r6 (fun r7 _ => k r7)) (fun g7 r7 => XvPick g7 (.atom (.bool true)) r7 (fun r8 _ => K ⟨[(1, S.get 1), (2, S.get 2), (3, S.get 3), (4, S.get 4), (6, S.get 6), (7, S.get 7), (8, S.get 8), (87, r8)], S.hp, S.nx, S.gh⟩)))))))) fun K hK => ?_
        repeat' (first | (refine hK _ ?_; clear hK K) | ((first | refine xG_intro (fun hg => ?_) (fun hg => ?_) | refine fun (hg : (_ : Prop)) => ?_) <;> ((try simp only [BQ] at hg); try (exfalso; omega))) | refine And.intro ?_ ?_ | exact cl | exact one_encP _ | exact flat_encI _ | refine one_take ?_ _ | refine one_drop ?_ _ | (refine st ?_; try simp only [encC, pairs, rowsI, encCert, zeroCert, orC, Option.getD_some, Option.getD_none, Option.isSome_some, Option.isSome_none]) | simp only [encC, pairs, rowsI, encCert, zeroCert, orC, Option.getD_some, Option.getD_none, Option.isSome_some, Option.isSome_none])
        all_goals try simp (disch := omega) only [wrap_id, wrap8_id]
        all_goals
        refine Tri.cond rfl (fun h87 => ?_) (fun h87 => ?_)
        ·try (cases h87; done)
         all_goals (try simp only [CQ] at h87)
         all_goals
         refine sZ [1, 2, 3, 6, 7] (fun P S K => XvLoad P 31 (M S.hp S.nx) (S.get 8) (fun r0 _ => XvStore P 31 (M S.hp S.nx) (S.get 3) r0 (fun r1 ef1 => K ⟨[(1, S.get 1), (2, S.get 2), (3, S.get 3), (6, S.get 6), (7, S.get 7)], (Eff.hp ef1 S.nx S.hp), (S.nx + ef1.add.length), S.gh⟩))) fun K hK => ?_
         repeat' (first | (refine hK _ ?_; clear hK K) | refine And.intro ?_ ?_ | exact cl | exact one_encP _ | exact flat_encI _ | refine one_take ?_ _ | refine one_drop ?_ _ | (refine st ?_; try simp only [encC, pairs, rowsI, encCert, zeroCert, orC, Option.getD_some, Option.getD_none, Option.isSome_some, Option.isSome_none]) | simp only [encC, pairs, rowsI, encCert, zeroCert, orC, Option.getD_some, Option.getD_none, Option.isSome_some, Option.isSome_none])
         all_goals
         refine rZ [1, 2, 3, 4, 6, 7] (fun P S K => K ⟨[(1, S.get 1), (2, S.get 2), (3, S.get 3), (4, (.atom (.bool true))), (6, S.get 6), (7, S.get 7)], S.hp, S.nx, S.gh⟩) fun K hK => ?_
         repeat' (first | (refine hK _ ?_; clear hK K) | refine And.intro ?_ ?_ | exact cl | exact one_encP _ | exact flat_encI _ | (refine st ?_; try simp only [encC, pairs, rowsI, encCert, zeroCert, orC, Option.getD_some, Option.getD_none, Option.isSome_some, Option.isSome_none]) | simp only [encC, pairs, rowsI, encCert, zeroCert, orC, Option.getD_some, Option.getD_none, Option.isSome_some, Option.isSome_none])
         all_goals
         refine rZ [1, 2, 3, 4, 6, 7] (fun P S K => XvBinOV P .add 3 (.const (.int .i64 1)) (S.get 7) (.atom (.int .i64 1)) (fun r1 _ => K ⟨[(1, S.get 1), (2, S.get 2), (3, S.get 3), (4, S.get 4), (6, S.get 6), (7, r1)], S.hp, S.nx, S.gh⟩)) fun K hK => ?_
         repeat' (first | (refine hK _ ?_; clear hK K) | refine And.intro ?_ ?_ | exact cl | exact one_encP _ | exact flat_encI _ | (refine st ?_; try simp only [encC, pairs, rowsI, encCert, zeroCert, orC, Option.getD_some, Option.getD_none, Option.isSome_some, Option.isSome_none]) | simp only [encC, pairs, rowsI, encCert, zeroCert, orC, Option.getD_some, Option.getD_none, Option.isSome_some, Option.isSome_none])
         all_goals try simp (disch := omega) only [wrap_id, wrap8_id]
         all_goals
         first
         | (refine ⟨⟨k + 1, by omega⟩, [0, 1, 2], by dsimp only; omega, ?_⟩; dsimp only; rw [bestK_none hsi, hX]; exact leqB14)
         | (refine ⟨⟨k + 1, by omega⟩, [0, 1, 2], by dsimp only; omega, ?_⟩; dsimp only; rw [bestK_up hsi (by rw [hX]; assumption), hX]; exact leqB14)
         | (refine ⟨⟨k + 1, by omega⟩, [0, 1, 2], by dsimp only; omega, ?_⟩; dsimp only; rw [bestK_stay hsi (by rw [hX]; assumption)]; exact leqB14)
        ·try (cases h87; done)
         all_goals (try simp only [CQ] at h87)
         all_goals
         refine Tri.skip ?_
         refine rZ [1, 2, 3, 4, 6, 7] (fun P S K => XvBinOV P .add 3 (.const (.int .i64 1)) (S.get 7) (.atom (.int .i64 1)) (fun r1 _ => K ⟨[(1, S.get 1), (2, S.get 2), (3, S.get 3), (4, S.get 4), (6, S.get 6), (7, r1)], S.hp, S.nx, S.gh⟩)) fun K hK => ?_
         repeat' (first | (refine hK _ ?_; clear hK K) | refine And.intro ?_ ?_ | exact cl | exact one_encP _ | exact flat_encI _ | (refine st ?_; try simp only [encC, pairs, rowsI, encCert, zeroCert, orC, Option.getD_some, Option.getD_none, Option.isSome_some, Option.isSome_none]) | simp only [encC, pairs, rowsI, encCert, zeroCert, orC, Option.getD_some, Option.getD_none, Option.isSome_some, Option.isSome_none])
         all_goals try simp (disch := omega) only [wrap_id, wrap8_id]
         all_goals
         first
         | (refine ⟨⟨k + 1, by omega⟩, [0, 1, 2], by dsimp only; omega, ?_⟩; dsimp only; rw [bestK_none hsi, hX]; exact leqB14)
         | (refine ⟨⟨k + 1, by omega⟩, [0, 1, 2], by dsimp only; omega, ?_⟩; dsimp only; rw [bestK_up hsi (by rw [hX]; assumption), hX]; exact leqB14)
         | (refine ⟨⟨k + 1, by omega⟩, [0, 1, 2], by dsimp only; omega, ?_⟩; dsimp only; rw [bestK_stay hsi (by rw [hX]; assumption)]; exact leqB14)
     ·try (cases h43; done)
      all_goals (try simp only [CQ] at h43)
      all_goals
      refine Tri.exit ?_
      obtain rfl : k = Z.length := by omega
      refine sZ [2] (fun P S K => XvLoad P 31 (M S.hp S.nx) (S.get 3) (fun r0 _ => XvStore P 31 (M S.hp S.nx) (S.get 2) r0 (fun r1 ef1 => K ⟨[(2, S.get 2)], (Eff.hp ef1 S.nx S.hp), (S.nx + ef1.add.length), S.gh⟩))) fun K hK => ?_
      repeat' (first | (refine hK _ ?_; clear hK K) | refine And.intro ?_ ?_ | exact cl | exact one_encP _ | exact flat_encI _ | refine one_take ?_ _ | refine one_drop ?_ _ | (refine st ?_; try simp only [encC, pairs, rowsI, encCert, zeroCert, orC, Option.getD_some, Option.getD_none, Option.isSome_some, Option.isSome_none]) | simp only [encC, pairs, rowsI, encCert, zeroCert, orC, Option.getD_some, Option.getD_none, Option.isSome_some, Option.isSome_none])
      all_goals
      refine Tri.ret ?_
      show ResR _ _ _ _ _
      rw [hfin]
      refine ResR.cell1 (PV.agg [_, _, _]) rfl ?_ (pure_cert _)
      simp [sealed, St.obj, lk, encCert, ints, map_sealed_encI, orC]
theorem leqB15 {p : Prop} (h : p := by (refine ⟨4, ?_, ?_, rfl, by simp, rfl, fun _ h _ => absurd h (Nat.not_lt_zero _)⟩ <;> (simp only [List.forall_mem_cons]; repeat' (first | refine And.intro ?_ ?_ | (intro p hp; exact absurd hp List.not_mem_nil) | rfl | exact sp (pure_case _) | exact sp (pure_pairs _) | exact sp (pure_cert _) | exact (sealed_pure _ _ _ (pure_ints _)).trans (ren_ints _ _).symm | exact (sealed_pure _ _ _ (pure_strs _)).trans (ren_strs _ _).symm | exact sp (by assumption) | (intro o ho; cases ho; refine ⟨by decide, ?_⟩; first | (refine LeqS.row rfl ?_ ?_; (next => (first | rfl | (simp only [List.map_append, List.map_cons, List.map_nil, List.append_nil, List.nil_append, List.append_assoc, List.cons_append, encI, encS, ints, strs]; done) | (simp [encI, encS, ints, strs, encP]; done))); (next => (first | rfl | exact pureL_encI _ | exact pureL_encS _ | exact pureL_ints _ | exact pureL_strs _ | exact pureL_encP _ | (simp [pureL_append, pureL_encI, pureL_encS, pureL_ints, pureL_strs, pureL, PV.pure, pure_ints, pure_strs, pure_case, pureL_encP, pure_pairs, pure_cert]; done))); done) | refine ⟨_, rfl, rfl, ?_⟩) | (simp [St.born, St.known, retV, St.get, St.obj, lk, sealed, PV.ren, renL, rmap, AO.ren, ints, strs, encI, encS, map_sealed_encI, map_sealed_encS, map_sealed_ints, map_sealed_strs, map_ren_encI, map_ren_encS, map_ren_ints, map_ren_strs, renL_encI, renL_encS, renL_ints, renL_strs, ren_case, encC, pairs, renL_encP, map_sealed_encP, map_ren_encP, encP, take_map_len, encCert] <;> omega)))); first | done | fail) : p := h
def findP (c : CaseD) : List (Int × Int) := if validC c ≠ 0 then [] else if c.sizes.length ≤ 6 then (searchF c c.sizes.length (List.replicate c.people.toNat 0) 1048576).1 else quickS c
def findN (c : CaseD) : Int := if validC c ≠ 0 then 0 else greatest (loadsR c (findP c))
def findC (c : CaseD) : CertD := if validC c ≠ 0 then ⟨[], [], 0⟩ else bestS c
def findR (c : CaseD) : PV := .tup [pairs (findP c), encI (findN c), encCert (findC c), encI (validC c)]
theorem pure_findR (c : CaseD) : (findR c).pure = true := by simp [findR, PV.pure, pureL, pure_pairs, pure_cert, encI]
theorem flat_encP (l : List (Int × Int)) : (l.map encP).all PV.flatB = true := by rw [List.all_map]; exact List.all_eq_true.2 fun _ _ => rfl
theorem reach_pureL {H : Nat → Option AO} {n : Nat} {l : List PV} (h : pureL l = true) : l.flatMap (reach H n) = [] := List.flatMap_eq_nil_iff.2 fun q hq => pure_reach n q (by rw [pureL_all] at h; exact List.all_eq_true.1 h q hq)
theorem reach_encI (H : Nat → Option AO) (n : Nat) (l : List Int) : (l.map encI).flatMap (reach H n) = [] := reach_pureL (pureL_encI l)
theorem reach_encP (H : Nat → Option AO) (n : Nat) (l : List (Int × Int)) : (l.map encP).flatMap (reach H n) = [] := reach_pureL (pureL_encP l)
theorem findP_len (c : CaseD) : (findP c).length ≤ c.sizes.length := by
  unfold findP
  split
  · exact Nat.zero_le _
  · rename_i h
    split
    · exact searchF_len c _ _ _
    · have hG := valid_good (Classical.byContradiction h)
      exact Nat.le_of_eq (quickI hG c.sizes.length (Nat.le_refl _)).out
theorem loadsR_len (c : CaseD) (ps : List (Int × Int)) (h : c.people ≤ 6) : (loadsR c ps).length ≤ 6 := by
  unfold loadsR; split
  · rw [loadsG_len]; omega
  · exact Nat.zero_le _
theorem Find_pure (c : CaseD) (hc : Held c) : Pure Try.prog 13 [encC c] (findR c) [] := by
  have hsl := hc.sizes
  refine Pure.introR (rv := [.tmp 2, .tmp 3, .cell 4 31, .tmp 5]) Try.func13 (by kernel_rfl) rfl rfl rfl (Nat.le_of_ble_eq_true rfl) ?_ ?_
  · simp [pure_case, encI, PV.pure, pureL]
  refine sZ [1, 4] (fun P S K => XvBox S.nx (S.get 0) (fun r0 ef0 => XvAlloc P 31 (S.nx + ef0.add.length) (fun r3 ef3 => K ⟨[(1, r0), (4, r3)], (Eff.hp ef3 (S.nx + ef0.add.length) (Eff.hp ef0 S.nx S.hp)), ((S.nx + ef0.add.length) + ef3.add.length), S.gh⟩))) fun K hK => ?_
  repeat' (first | (refine hK _ ?_; clear hK K) | refine And.intro ?_ ?_ | exact cl | exact flat_encP _ | (refine st ?_; try simp only [encC, pairs, encCert, zeroCert]) | simp only [encC, pairs, encCert, zeroCert])
  all_goals
  refine sZ [1, 4, 6] (fun P S K => XvLoad P 25 (M S.hp S.nx) (S.get 1) (fun r0 _ => XvFnIV P (M S.hp S.nx) (.fn 17 []) [r0] (fun r1 ef1 => K ⟨[(1, S.get 1), (4, S.get 4), (6, r1)], (Eff.hp ef1 S.nx S.hp), (S.nx + ef1.add.length), S.gh⟩))) fun K hK => ?_
  repeat' (first | (refine hK _ ?_; clear hK K) | refine And.intro ?_ ?_ | exact cl | exact flat_encP _ | refine one_take ?_ _ | refine one_drop ?_ _ | refine .inl ⟨_, _, rValid_pure c hc, ?_⟩ | refine .inl ⟨_, _, search_own c hc hG c.sizes.length 0 (List.replicate c.people.toNat 0) 1048576 (by omega) (by simp) hz0, ?_⟩ | (refine st ?_; try simp only [encC, pairs, encCert, zeroCert]) | simp only [encC, pairs, encCert, zeroCert])
  all_goals
  refine Tri.seq ?_
  refine sZ [1, 4, 6, 13] (fun P S K => XvBinOV P .neq 32 (.const (.int .i64 0)) (S.get 6) (.atom (.int .i64 0)) (fun r1 _ => K ⟨[(1, S.get 1), (4, S.get 4), (6, S.get 6), (13, r1)], S.hp, S.nx, S.gh⟩)) fun K hK => ?_
  repeat' (first | (refine hK _ ?_; clear hK K) | refine And.intro ?_ ?_ | exact cl | exact flat_encP _ | (refine st ?_; try simp only [encC, pairs, encCert, zeroCert]) | simp only [encC, pairs, encCert, zeroCert])
  all_goals
  refine Tri.cond rfl (fun h13 => ?_) (fun h13 => ?_)
  ·try (cases h13; done)
   all_goals (try simp only [CQ] at h13)
   all_goals
   refine sZ [2, 3, 4, 5] (fun P S K => XvBuild P 31 [] (fun r0 _ => XvStore P 31 (M S.hp S.nx) (S.get 4) r0 (fun r4 ef4 => K ⟨[(2, (.atom (.slice none 0 0))), (3, (.atom (.int .i64 0))), (4, S.get 4), (5, (S.get 6))], (Eff.hp ef4 S.nx S.hp), (S.nx + ef4.add.length), S.gh⟩))) fun K hK => ?_
   repeat' (first | (refine hK _ ?_; clear hK K) | refine And.intro ?_ ?_ | exact cl | exact flat_encP _ | (refine st ?_; try simp only [encC, pairs, encCert, zeroCert]) | simp only [encC, pairs, encCert, zeroCert])
   refine Tri.asSl 2 2 rfl ?_
   refine Tri.nilF 1 0 1 3 _ rfl rfl ?_
   refine Tri.nilF 1 1 1 3 _ rfl rfl ?_
   all_goals
   refine Tri.ret ?_
   show ResR _ _ _ _ _
   have e1 : findP c = [] := if_pos h13
   have e2 : findN c = 0 := if_pos h13
   have e3 : findC c = ⟨[], [], 0⟩ := if_pos h13
   refine ResR.cells (PV.sl 2 []) (encI 0) [.agg [.sl 1 [], .sl 1 [], encI 0], encI (validC c)] rfl ?_ (pure_findR c)
   unfold findR; rw [e1, e2, e3]; rfl
  ·try (cases h13; done)
   all_goals (try simp only [CQ] at h13)
   all_goals
   refine Tri.skip ?_
   have hv : validC c = 0 := by omega
   have hG := valid_good hv
   have hlo := hG.lo
   have hhi := hG.hi
   have hmany := hG.many
   have hz0 : ∀ x, x ∈ List.replicate c.people.toNat (0 : Int) → 0 ≤ x ∧ x ≤ 2048 * ((0 : Nat) : Int) := fun x hx => by have := (List.mem_replicate.1 hx).2; omega
   have hpl := findP_len c
   have hrl := loadsR_len c (findP c) hhi
   refine sZ [1, 4, 7] (fun P S K => XvLoad P 25 (M S.hp S.nx) (S.get 1) (fun r0 _ => XvFnIV P (M S.hp S.nx) (.fn 37 []) [r0] (fun r1 ef1 => K ⟨[(1, S.get 1), (4, S.get 4), (7, r1)], (Eff.hp ef1 S.nx S.hp), (S.nx + ef1.add.length), S.gh⟩))) fun K hK => ?_
   repeat' (first | (refine hK _ ?_; clear hK K) | refine And.intro ?_ ?_ | exact cl | exact flat_encP _ | refine one_take ?_ _ | refine one_drop ?_ _ | refine .inl ⟨_, _, quick_pure c hc hG, ?_⟩ | refine .inl ⟨_, _, search_own c hc hG c.sizes.length 0 (List.replicate c.people.toNat 0) 1048576 (by omega) (by simp) hz0, ?_⟩ | (refine st ?_; try simp only [encC, pairs, encCert, zeroCert]) | simp only [encC, pairs, encCert, zeroCert])
   all_goals
   refine Tri.cut (α := Unit) (fun ⟨⟩ => ⟨[(1, .ptr 0 3 0 0), (4, .ptr 1 3 0 0), (7, pairs (findP c))], [(0, some ⟨3, [encC c]⟩), (1, some ⟨3, [zeroCert]⟩)], 2, []⟩) ?_ ?_
   ·skip
    refine sZ [1, 4, 7, 21] (fun P S K => XvFieldAddr P 25 0 (S.get 1) (fun r0 _ => XvLoad P 22 (M S.hp S.nx) r0 (fun r1 _ => XvLen P 22 r1 (fun r2 _ => XvBinOV P .leq 3 (.const (.int .i64 6)) r2 (.atom (.int .i64 6)) (fun r3 _ => K ⟨[(1, S.get 1), (4, S.get 4), (7, S.get 7), (21, r3)], S.hp, S.nx, S.gh⟩))))) fun K hK => ?_
    repeat' (first | (refine hK _ ?_; clear hK K) | refine And.intro ?_ ?_ | exact cl | exact flat_encP _ | refine one_take ?_ _ | refine one_drop ?_ _ | (refine st ?_; try simp only [encC, pairs, encCert, zeroCert]) | simp only [encC, pairs, encCert, zeroCert])
    all_goals
    refine Tri.cond rfl (fun h21 => ?_) (fun h21 => ?_)
    ·try (cases h21; done)
     all_goals (try simp only [CQ] at h21)
     all_goals
     refine rD 10 [1, 4, 7] (fun P GD S K => XvLoad P 25 (M S.hp S.nx) (S.get 1) (fun r0 ef0 => XvFieldAddr P 25 1 (S.get 1) (fun r1 ef1 => XvLoad P 3 (M S.hp S.nx) r1 (fun r2 ef2 => XvMake P 22 (M S.hp S.nx) r2 r2 (fun r3 ef3 => XvFnV P (M (Eff.hp ef3 S.nx S.hp) (S.nx + ef3.add.length)) (.fn 38 []) [r0, (.atom (.int .i64 0)), r3, (.atom (.int .i64 1048576))] (fun r4 ef4 => XvExtract r4 0 (fun r6 ef6 => XvExtract r4 1 (fun r7 ef7 => XvExtract r4 2 (fun r8 ef8 => (trOk S.nx GD [⟨S.nx, 0, ef0.rd, [], []⟩, ⟨S.nx, 0, ef1.rd, [], []⟩, ⟨S.nx, 0, ef2.rd, [], []⟩, (Eff.tr ef3 S.nx), (Eff.tr ef4 (S.nx + ef3.add.length)), ⟨((S.nx + ef3.add.length) + ef4.add.length), 0, [], [], []⟩, ⟨((S.nx + ef3.add.length) + ef4.add.length), 0, ef6.rd, [], []⟩, ⟨((S.nx + ef3.add.length) + ef4.add.length), 0, ef7.rd, [], []⟩, ⟨((S.nx + ef3.add.length) + ef4.add.length), 0, ef8.rd, [], []⟩, ⟨((S.nx + ef3.add.length) + ef4.add.length), 0, [], [], []⟩] = true ∧ K ⟨[(1, S.get 1), (4, S.get 4), (7, r6)], (Eff.hp ef4 (S.nx + ef3.add.length) (Eff.hp ef3 S.nx S.hp)), ((S.nx + ef3.add.length) + ef4.add.length), S.gh⟩)))))))))) fun K hK => ?_
     repeat' (first | (refine hK _ ?_; clear hK K) | (refine (?_ : trOk _ _ _ = true); (simp [-List.map_replicate, reach, St.obj, lk, reach_encI, reach_encP]; kernel_rfl)) | ((first | refine xG_intro (fun hg => ?_) (fun hg => ?_) | refine fun (hg : (_ : Prop)) => ?_) <;> ((try simp only [BQ] at hg); try (exfalso; omega))) | refine And.intro ?_ ?_ | exact cl | exact flat_encP _ | refine one_take ?_ _ | refine one_drop ?_ _ | refine .inl ⟨_, _, search_own c hc hG c.sizes.length 0 (List.replicate c.people.toNat 0) 1048576 (by omega) (by simp) hz0, ?_⟩ | refine ⟨_, _, search_own c hc hG c.sizes.length 0 (List.replicate c.people.toNat 0) 1048576 (by omega) (by simp) hz0, ?_⟩ | (refine st ?_; try simp only [encC, pairs, encCert, zeroCert, zeros_I, map_sealed_encI, List.length_map, List.length_replicate, Nat.le_refl, if_true, (show List.take c.people.toNat ((List.replicate c.people.toNat (0 : Int)).map encI) = (List.replicate c.people.toNat (0 : Int)).map encI from List.take_of_length_le (by simp))]) | simp only [encC, pairs, encCert, zeroCert, zeros_I, map_sealed_encI, List.length_map, List.length_replicate, Nat.le_refl, if_true, (show List.take c.people.toNat ((List.replicate c.people.toNat (0 : Int)).map encI) = (List.replicate c.people.toNat (0 : Int)).map encI from List.take_of_length_le (by simp))])
     all_goals
     first | (rw [show quickS c = findP c by unfold findP; rw [if_neg (by omega), if_neg (by omega)]]) | (rw [show (searchF c c.sizes.length (List.replicate c.people.toNat 0) 1048576).1 = findP c by unfold findP; rw [if_neg (by omega), if_pos (by omega)]])
     refine ⟨(), [0, 1], ?_⟩
     exact leqB15
    ·try (cases h21; done)
     all_goals (try simp only [CQ] at h21)
     all_goals
     refine Tri.skip ?_
     first | (rw [show quickS c = findP c by unfold findP; rw [if_neg (by omega), if_neg (by omega)]]) | (rw [show (searchF c c.sizes.length (List.replicate c.people.toNat 0) 1048576).1 = findP c by unfold findP; rw [if_neg (by omega), if_pos (by omega)]])
     refine ⟨(), [0, 1], ?_⟩
     exact leqB15
   ·rintro ⟨⟩
    refine sZ [1, 4, 7, 8] (fun P S K => XvLoad P 25 (M S.hp S.nx) (S.get 1) (fun r0 _ => XvFnIV P (M S.hp S.nx) (.fn 19 []) [r0, (S.get 7)] (fun r2 ef2 => XvExtract r2 0 (fun r4 _ => XvExtract r2 1 (fun r5 _ => K ⟨[(1, S.get 1), (4, S.get 4), (7, S.get 7), (8, r4)], (Eff.hp ef2 S.nx S.hp), (S.nx + ef2.add.length), S.gh⟩))))) fun K hK => ?_
    repeat' (first | (refine hK _ ?_; clear hK K) | refine And.intro ?_ ?_ | exact cl | exact flat_encP _ | refine one_take ?_ _ | refine one_drop ?_ _ | refine .inl ⟨_, _, search_own c hc hG c.sizes.length 0 (List.replicate c.people.toNat 0) 1048576 (by omega) (by simp) hz0, ?_⟩ | refine .inl ⟨_, _, rLoads_pure c (findP c) hc (by omega), ?_⟩ | (refine st ?_; try simp only [encC, pairs, encCert, zeroCert]) | simp only [encC, pairs, encCert, zeroCert])
    all_goals
    refine sD 7 [2, 3, 4, 5] (fun P GD S K => XvFnV P (M S.hp S.nx) (.fn 34 []) [(S.get 8)] (fun r2 ef2 => XvLoad P 25 (M (Eff.hp ef2 S.nx S.hp) (S.nx + ef2.add.length)) (S.get 1) (fun r3 ef3 => XvFnV P (M (Eff.hp ef2 S.nx S.hp) (S.nx + ef2.add.length)) (.fn 39 []) [r3] (fun r4 ef4 => (trOk S.nx GD [⟨S.nx, 0, [], [], []⟩, ⟨S.nx, 0, [], [], []⟩, (Eff.tr ef2 S.nx), ⟨(S.nx + ef2.add.length), 0, ef3.rd, [], []⟩, (Eff.tr ef4 (S.nx + ef2.add.length)), ⟨((S.nx + ef2.add.length) + ef4.add.length), 0, [], [], []⟩, ⟨((S.nx + ef2.add.length) + ef4.add.length), 0, [], [], []⟩] = true ∧ XvStore P 31 (M (Eff.hp ef4 (S.nx + ef2.add.length) (Eff.hp ef2 S.nx S.hp)) ((S.nx + ef2.add.length) + ef4.add.length)) (S.get 4) r4 (fun r7 ef7 => K ⟨[(2, (S.get 7)), (3, r2), (4, S.get 4), (5, (.atom (.int .i64 0)))], (Eff.hp ef7 ((S.nx + ef2.add.length) + ef4.add.length) (Eff.hp ef4 (S.nx + ef2.add.length) (Eff.hp ef2 S.nx S.hp))), (((S.nx + ef2.add.length) + ef4.add.length) + ef7.add.length), S.gh⟩)))))) fun K hK => ?_
    repeat' (first | (refine hK _ ?_; clear hK K) | (refine (?_ : trOk _ _ _ = true); kernel_rfl) | refine And.intro ?_ ?_ | exact cl | exact flat_encP _ | refine one_take ?_ _ | refine one_drop ?_ _ | refine .inl ⟨_, _, search_own c hc hG c.sizes.length 0 (List.replicate c.people.toNat 0) 1048576 (by omega) (by simp) hz0, ?_⟩ | refine ⟨_, _, search_own c hc hG c.sizes.length 0 (List.replicate c.people.toNat 0) 1048576 (by omega) (by simp) hz0, ?_⟩ | refine .inl ⟨_, _, Greatest_pure (loadsR c (findP c)) (by omega), ?_⟩ | refine ⟨_, _, Greatest_pure (loadsR c (findP c)) (by omega), ?_⟩ | refine .inl ⟨_, _, Best_pure c hc hG, ?_⟩ | refine ⟨_, _, Best_pure c hc hG, ?_⟩ | (refine st ?_; try simp only [encC, pairs, encCert, zeroCert]) | simp only [encC, pairs, encCert, zeroCert])
    all_goals
    refine Tri.ret ?_
    show ResR _ _ _ _ _
    have e2 : findN c = greatest (loadsR c (findP c)) := if_neg (by omega)
    have e3 : findC c = bestS c := if_neg (by omega)
    refine ResR.cells (pairs (findP c)) (encI (greatest (loadsR c (findP c)))) [encCert (bestS c), encI 0] rfl ?_ (pure_findR c)
    unfold findR; rw [e2, e3, hv]; rfl
end Go.Proofs.Ytcdeilgijleoaaa
