/-
  Walks: sets (as a contract), Best of the reference model.
-/
import Derived.Test.YtcdeilgijleoaaaNA1
import Derived.Test.YtcdeilgijleoaaaNA2
import Derived.Test.YtcdeilgijleoaaaNVR
set_option linter.all false
namespace Go.Proofs.Ytcdeilgijleoaaa
open Go Go.RowKit
set_option maxRecDepth 20000
set_option maxHeartbeats 1000000
theorem pure_cert (x : CertD) : (encCert x).pure = true := by simp [encCert, PV.pure, pureL, pure_ints, encI]
theorem sets_all : ∀ n : Fin 7, (setsN n.1).length < 64 ∧ ∀ l, l ∈ setsN n.1 → 0 < l.length ∧ l.length ≤ 6 ∧ incS n.1 l = true := by decide +kernel
theorem sets_mem {n : Nat} (h : n ≤ 6) {l : List Int} (hl : l ∈ setsN n) : 0 < l.length ∧ l.length ≤ 6 ∧ incS n l = true := (sets_all ⟨n, by omega⟩).2 l hl
def bestI (c : CaseD) : Nat → Option CertD
  | 0 => none
  | i + 1 => match bestI c i with
    | none => some ⟨[(i : Int)], [], li c.sizes i⟩
    | some y => if y.least < li c.sizes i then some ⟨[(i : Int)], [], li c.sizes i⟩ else some y
def someS (c : CaseD) (l : List Int) : Nat → List Int
  | 0 => []
  | i + 1 => someS c l i ++ if 0 < needS c i l then [(i : Int)] else []
def setX (c : CaseD) (l : List Int) : CertD := ⟨someS c l c.sizes.length, l, countedS c (someS c l c.sizes.length) l⟩
def bestK (c : CaseD) (K : List (List Int)) : Nat → Option CertD
  | 0 => bestI c c.sizes.length
  | k + 1 => match bestK c K k with
    | none => some (setX c (K.getD k []))
    | some y => if y.least < (setX c (K.getD k [])).least then some (setX c (K.getD k [])) else some y
def orC (x : Option CertD) : CertD := x.getD ⟨[], [], 0⟩
def bestS (c : CaseD) : CertD := orC (bestK c (setsN c.people.toNat) (setsN c.people.toNat).length)
theorem someS_len (c : CaseD) (l : List Int) : ∀ i, (someS c l i).length ≤ i
  | 0 => Nat.le_refl _
  | i + 1 => by have := someS_len c l i; rw [someS, List.length_append]; split <;> simp <;> omega
theorem someS_mem {c : CaseD} {l : List Int} : ∀ {i : Nat} {x : Int}, x ∈ someS c l i → 0 ≤ x ∧ x < i
  | 0, x, h => by cases h
  | i + 1, x, h => by
    rw [someS] at h
    rcases List.mem_append.1 h with h | h
    · have := someS_mem h; omega
    · split at h
      · rw [List.mem_singleton.1 h]; omega
      · cases h
theorem bestI_none {c : CaseD} {i : Nat} (h : bestI c i = none) : bestI c (i + 1) = some ⟨[(i : Int)], [], li c.sizes i⟩ := by rw [bestI, h]
theorem bestI_up {c : CaseD} {i : Nat} {y : CertD} (h : bestI c i = some y) (hl : y.least < li c.sizes i) : bestI c (i + 1) = some ⟨[(i : Int)], [], li c.sizes i⟩ := by rw [bestI, h]; exact if_pos hl
theorem bestI_stay {c : CaseD} {i : Nat} {y : CertD} (h : bestI c i = some y) (hl : ¬ y.least < li c.sizes i) : bestI c (i + 1) = some y := by rw [bestI, h]; exact if_neg hl
theorem bestK_none {c : CaseD} {K : List (List Int)} {k : Nat} (h : bestK c K k = none) : bestK c K (k + 1) = some (setX c (K.getD k [])) := by rw [bestK, h]
theorem bestK_up {c : CaseD} {K : List (List Int)} {k : Nat} {y : CertD} (h : bestK c K k = some y) (hl : y.least < (setX c (K.getD k [])).least) : bestK c K (k + 1) = some (setX c (K.getD k [])) := by rw [bestK, h]; exact if_pos hl
theorem bestK_stay {c : CaseD} {K : List (List Int)} {k : Nat} {y : CertD} (h : bestK c K k = some y) (hl : ¬ y.least < (setX c (K.getD k [])).least) : bestK c K (k + 1) = some y := by rw [bestK, h]; exact if_neg hl
def zeroCert : PV := .agg [.atom (.slice none 0 0), .atom (.slice none 0 0), .atom (.int .i64 0)]
def findP (c : CaseD) : List (Int × Int) := if validC c ≠ 0 then [] else if c.sizes.length ≤ 6 then (searchF c c.sizes.length (List.replicate c.people.toNat 0) 1048576).1 else quickS c
def findN (c : CaseD) : Int := if validC c ≠ 0 then 0 else greatest (loadsR c (findP c))
def findC (c : CaseD) : CertD := if validC c ≠ 0 then ⟨[], [], 0⟩ else bestS c
def findR (c : CaseD) : PV := .tup [pairs (findP c), encI (findN c), encCert (findC c), encI (validC c)]
theorem pure_findR (c : CaseD) : (findR c).pure = true := by simp [findR, PV.pure, pureL, pure_pairs, pure_cert, encI]
theorem flat_encP (l : List (Int × Int)) : (l.map encP).all PV.flatB = true := by rw [List.all_map]; exact List.all_eq_true.2 fun _ _ => rfl
theorem reach_pureL {H : Nat → Option AO} {n : Nat} {l : List PV} (h : pureL l = true) : l.flatMap (reach H n) = [] := List.flatMap_eq_nil_iff.2 fun q hq => pure_reach n q (by rw [pureL_all] at h; exact List.all_eq_true.1 h q hq)
theorem findP_len (c : CaseD) : (findP c).length ≤ c.sizes.length := by
  unfold findP
  split
  · exact Nat.zero_le _
  · rename_i h
    split
    · exact searchF_len c _ _ _
    · have hG := valid_good (Classical.byContradiction h)
      exact Nat.le_of_eq (quickI hG c.sizes.length (Nat.le_refl _)).out
theorem xge_tt {run : (PV → Eff → Prop) → Prop} {k : PV → PV → Eff → Prop} : Xge (.atom (.bool true)) true run k = run (k (.atom (.bool true))) := by rw [Xge_eq]; exact xG_tt
theorem xge_ff {run : (PV → Eff → Prop) → Prop} {k : PV → PV → Eff → Prop} : Xge (.atom (.bool false)) false run k = run (k (.atom (.bool false))) := by rw [Xge_eq]; exact xG_ff
theorem xge_tf {run : (PV → Eff → Prop) → Prop} {k : PV → PV → Eff → Prop} : Xge (.atom (.bool true)) false run k = k (.atom (.bool true)) pvU e0 := by rw [Xge_eq]; exact xG_tf
theorem xge_ft {run : (PV → Eff → Prop) → Prop} {k : PV → PV → Eff → Prop} : Xge (.atom (.bool false)) true run k = k (.atom (.bool false)) pvU e0 := by rw [Xge_eq]; exact xG_ft
theorem xgq_tt {run : (PV → Prop) → Prop} {k : PV → PV → Prop} : Xgq (.atom (.bool true)) true run k = run (k (.atom (.bool true))) := by rw [Xgq_eq]; exact xG_tt
theorem xgq_ff {run : (PV → Prop) → Prop} {k : PV → PV → Prop} : Xgq (.atom (.bool false)) false run k = run (k (.atom (.bool false))) := by rw [Xgq_eq]; exact xG_ff
theorem xgq_tf {run : (PV → Prop) → Prop} {k : PV → PV → Prop} : Xgq (.atom (.bool true)) false run k = k (.atom (.bool true)) pvU := by rw [Xgq_eq]; exact xG_tf
theorem xgq_ft {run : (PV → Prop) → Prop} {k : PV → PV → Prop} : Xgq (.atom (.bool false)) true run k = k (.atom (.bool false)) pvU := by rw [Xgq_eq]; exact xG_ft
def SE := And.intro (And.intro (And.intro (And.intro @xge_tt @xge_ff) (And.intro @xge_tf @xge_ft)) (And.intro (And.intro @xgq_tt @xgq_ff) (And.intro @xgq_tf @xgq_ft))) (And.intro (And.intro @xG_tt @xG_ff) (And.intro @xG_tf @xG_ft))
section
variable {P : Program} {n : Nat} {S : St} {Q : Exit → St → Prop}
theorem sDa {id : Nat} {l : List Oper} {y : Code} (n0 : Nat) (live : List Nat) (T : Program → List (List Nat) → St → (St → Prop) → Prop) (h : ∀ K : St → Prop, (∀ S', Tri P n y S' Q → K S') → ∀ S1, S1 = S → T P (growDeps l) S1 K) (hm : P.follows .mixedOrders = true := by kernel_rfl) (hB : growB l.toArray (growDeps l) n0 = true := by kernel_rfl) (hd : dstOk n l = true := by kernel_rfl)
    (hT : ∀ K, yOpsT P l.toArray (l.take n0) S [] (fun S1 tr => trOk S.nx (growDeps l) tr = true ∧ yOps P l.toArray (l.drop n0) S1 (fun S1 => K (S1.pick live))) = T P (growDeps l) S K := by intro K; kernel_rfl) :
    Tri P n (.seq (.region id l.toArray true) y) S Q := sD n0 live T (fun K hK => h K hK S rfl) hm hB hd hT
end
def stepOk (l : List Int) (n : Int) (k : Nat) : Prop := 0 ≤ li l k ∧ li l k < n ∧ (0 < k → li l ((k : Int) - 1).toNat < li l k)
def IncP (l : List Int) (n : Int) : Prop := ∀ k, k < l.length → stepOk l n k
noncomputable def incB (l : List Int) (n : Int) : Bool := @decide (IncP l n) (Classical.propDecidable _)
theorem incB_yes {l : List Int} {n : Int} (h : IncP l n) : incB l n = true := @decide_eq_true _ (Classical.propDecidable _) h
theorem incB_mem {l : List Int} {n : Int} (h : incB l n = true) : ∀ x, x ∈ l → 0 ≤ x ∧ x < n := fun x hx => by
  have hp : IncP l n := @of_decide_eq_true _ (Classical.propDecidable _) h
  obtain ⟨k, hk, rfl⟩ := List.getElem_of_mem hx
  have := hp k hk
  rw [stepOk, show li l k = l[k] by simp [li, List.getD_eq_getElem?_getD, hk]] at this
  exact ⟨this.1, this.2.1⟩
structure Sane (x : CertD) : Prop where
  some : x.some.length ≤ 1000
  people : x.people.length ≤ 1000
  least : I64 x.least
def valS (c : CaseD) (x : CertD) : Int := if x.people.length = 0 then li c.sizes (li x.some 0).toNat else countedS c x.some x.people
noncomputable def wrongX (c : CaseD) (x : CertD) : Bool := !incB x.some c.sizes.length || !incB x.people c.people || (decide (x.people.length = 0) && decide (x.some.length ≠ 1))
noncomputable def boundE (c : CaseD) (x : CertD) : Int := if validC c ≠ 0 then validC c else if wrongX c x = true then 17 else if valS c x ≠ x.least then 17 else 0
noncomputable def boundN (c : CaseD) (x : CertD) : Int := if boundE c x = 0 then valS c x else 0
theorem counted_rng {c : CaseD} (hG : Good c) (ts people : List Int) (hs : ts.length ≤ 1000) (hp : people.length ≤ 1000) : 0 ≤ countedS c ts people ∧ countedS c ts people ≤ 3000000 := by
  have h1 := sumK_rng hG ts people ts.length (Nat.le_refl _)
  rw [sumK_all] at h1
  unfold countedS
  rcases Nat.eq_zero_or_pos people.length with h0 | h0
  · rw [h0]; simp
  · have h2 : 0 ≤ (sumS c ts people + people.length - 1).tdiv people.length := Int.tdiv_nonneg (by omega) (by omega)
    have h3 : (sumS c ts people + people.length - 1).tdiv people.length ≤ sumS c ts people + people.length - 1 := Int.tdiv_le_self _ (by omega)
    omega
theorem boundE_wrong {c : CaseD} {x : CertD} (h : validC c = 0) (h2 : wrongX c x = true) : boundE c x = 17 := by unfold boundE; rw [if_neg (by omega), if_pos h2]
theorem boundN_ok {c : CaseD} {x : CertD} (h : boundE c x = 0) : boundN c x = valS c x := if_pos h
theorem wrong_a {c : CaseD} {x : CertD} (h : incB x.some c.sizes.length = false) : wrongX c x = true := by unfold wrongX; rw [h]; rfl
theorem wrong_b {c : CaseD} {x : CertD} (h : incB x.people c.people = false) : wrongX c x = true := by unfold wrongX; rw [h]; cases incB x.some c.sizes.length <;> rfl
theorem wrong_c {c : CaseD} {x : CertD} (h : x.people.length = 0) (h1 : ¬ x.some.length = 1) : wrongX c x = true := by
  unfold wrongX; rw [dec_yes h, dec_yes h1]; cases incB x.some c.sizes.length <;> cases incB x.people c.people <;> rfl
theorem val_none {c : CaseD} {x : CertD} (h : x.people.length = 0) : valS c x = li c.sizes (li x.some 0).toNat := if_pos h
theorem val_some {c : CaseD} {x : CertD} (h : 0 < x.people.length) : valS c x = countedS c x.some x.people := if_neg (by omega)
theorem loadsR_mem {c : CaseD} (hG : Good c) {ps : List (Int × Int)} (hp : ps.length ≤ 1000000) : ∀ x, x ∈ loadsR c ps → 0 ≤ x ∧ x ≤ 2048000000 := fun x hx => by
  unfold loadsR at hx
  split at hx
  · have := loadsG_rng (c := c) (fun x hx => by have := hG.size x hx; omega) ps ps.length x hx
    omega
  · cases hx
theorem leqB16 {p : Prop} (h : p := by (refine ⟨4, ?_, ?_, rfl, by simp, rfl, fun _ h _ => absurd h (Nat.not_lt_zero _)⟩ <;> (simp only [List.forall_mem_cons]; repeat' (first | refine And.intro ?_ ?_ | (intro p hp; exact absurd hp List.not_mem_nil) | rfl | exact sp (pure_case _) | exact sp (pure_pairs _) | exact sp (pure_cert _) | exact (sealed_pure _ _ _ (pure_ints _)).trans (ren_ints _ _).symm | exact (sealed_pure _ _ _ (pure_strs _)).trans (ren_strs _ _).symm | exact sp (by assumption) | (intro o ho; cases ho; refine ⟨by decide, ?_⟩; first | (refine LeqS.row rfl ?_ ?_; (next => (first | rfl | (simp only [List.map_append, List.map_cons, List.map_nil, List.append_nil, List.nil_append, List.append_assoc, List.cons_append, encI, encS, ints, strs]; done) | (simp [encI, encS, ints, strs, encP, addSize, addBar]; done))); (next => (first | rfl | exact pureL_encI _ | exact pureL_encS _ | exact pureL_ints _ | exact pureL_strs _ | exact pureL_encP _ | (simp [pureL_append, pureL_encI, pureL_encS, pureL_ints, pureL_strs, pureL, PV.pure, pure_ints, pure_strs, pure_case, pureL_encP, pure_pairs, pure_cert]; done))); done) | refine ⟨_, rfl, rfl, ?_⟩) | (simp [St.born, St.known, retV, St.get, St.obj, lk, sealed, PV.ren, renL, rmap, AO.ren, ints, strs, encI, encS, map_sealed_encI, map_sealed_encS, map_sealed_ints, map_sealed_strs, map_ren_encI, map_ren_encS, map_ren_ints, map_ren_strs, renL_encI, renL_encS, renL_ints, renL_strs, ren_case, encC, pairs, renL_encP, map_sealed_encP, map_ren_encP, encP, take_map_len, encCert, zeroCase, addSize, addBar] <;> omega)))); first | done | fail) : p := h
def zeroCase : PV := .agg [.atom (.slice none 0 0), .atom (.int .i64 0), .atom (.slice none 0 0)]
theorem atI_lo {l : List Int} {i m : Int} (hm : 0 < m) : 0 ≤ atI l i m := by
  unfold atI; split
  · exact Int.le_refl _
  · exact around_lo hm
theorem atI_hi {l : List Int} {i m : Int} (hm : 0 < m) : atI l i m < m := by
  unfold atI; split
  · exact hm
  · exact around_hi hm
def addBar (c : CaseD) (i p : Nat) : CaseD := ⟨c.sizes, c.people, c.bars ++ [((i : Int), (p : Int))]⟩
def addSize (c : CaseD) (n : Int) : CaseD := ⟨c.sizes ++ [n], c.people, c.bars⟩
def barB (l : List Int) (i p : Nat) : Bool := decide (bits .and .i64 ((atI l (4 + 2 * (i : Int)) 64).fdiv (2 ^ min p 64)) 3 = 3)
def madeB (l : List Int) (i : Nat) (c : CaseD) : Nat → CaseD
  | 0 => c
  | p + 1 => if barB l i p = true ∧ validC (addBar (madeB l i c p) i p) = 0 then addBar (madeB l i c p) i p else madeB l i c p
def madeI (l : List Int) (people : Int) : Nat → CaseD
  | 0 => ⟨[], people, []⟩
  | i + 1 => madeB l i (addSize (madeI l people i) (1 + atI l (3 + 2 * (i : Int)) 9)) people.toNat
def madeN (l : List Int) : Int := if atI l 0 4 = 0 then 5 + atI l 1 2 else 2 + atI l 1 3
def madeM (l : List Int) : Int := if atI l 0 4 = 0 then atI l 2 5 else if atI l 0 4 = 1 then 7 + atI l 2 6 else atI l 2 7
def madeC (l : List Int) : CaseD := madeI l (madeN l) (madeM l).toNat
theorem madeN_rng (l : List Int) : 2 ≤ madeN l ∧ madeN l ≤ 6 := by
  have h1 := atI_lo (l := l) (i := 1) (m := 2) (by decide)
  have h2 := atI_hi (l := l) (i := 1) (m := 2) (by decide)
  have h3 := atI_lo (l := l) (i := 1) (m := 3) (by decide)
  have h4 := atI_hi (l := l) (i := 1) (m := 3) (by decide)
  unfold madeN; split <;> omega
theorem madeM_rng (l : List Int) : 0 ≤ madeM l ∧ madeM l ≤ 12 := by
  have h1 := atI_lo (l := l) (i := 2) (m := 5) (by decide)
  have h2 := atI_hi (l := l) (i := 2) (m := 5) (by decide)
  have h3 := atI_lo (l := l) (i := 2) (m := 6) (by decide)
  have h4 := atI_hi (l := l) (i := 2) (m := 6) (by decide)
  have h5 := atI_lo (l := l) (i := 2) (m := 7) (by decide)
  have h6 := atI_hi (l := l) (i := 2) (m := 7) (by decide)
  unfold madeM; split
  · omega
  · split <;> omega
theorem valid_of_good {c : CaseD} (h : Good c) : validC c = 0 := by
  refine valid_ok (by have := h.many; omega) (by have := h.lo; have := h.hi; omega) (any_false (d := 0) fun j hj => badS_no (by have := h.size _ (li_mem hj); show ¬ (li c.sizes j < 1 ∨ 1024 < li c.sizes j); omega)) (any_false (d := (0, 0)) fun j hj => badB_no (b := lp c.bars j) (by have := h.bar _ (lp_mem hj); omega)) fun i hi => by have := h.some i hi; omega
theorem openN_all {c : CaseD} {i : Int} (h : ∀ p : Int, openB c i p = true) : ∀ k, openN c i k = k
  | 0 => rfl
  | k + 1 => by rw [openN_succ, openN_all h k, h, if_pos rfl]
theorem good_size {c : CaseD} {n : Int} (h : Good c) (hl : c.sizes.length < 64) (hn : 1 ≤ n ∧ n ≤ 1024) : Good (addSize c n) := by
  have hlen : (addSize c n).sizes.length = c.sizes.length + 1 := by simp [addSize]
  refine ⟨by omega, h.lo, h.hi, fun x hx => ?_, fun b hb => ?_, fun i hi => ?_⟩
  · rcases List.mem_append.1 hx with hx | hx
    · exact h.size x hx
    · rw [List.mem_singleton.1 hx]; exact hn
  · have := h.bar b hb
    rw [hlen]
    show 0 ≤ b.1 ∧ b.1 < ((c.sizes.length + 1 : Nat) : Int) ∧ 0 ≤ b.2 ∧ b.2 < c.people
    omega
  · rcases Nat.lt_or_ge i c.sizes.length with hc | hc
    · exact h.some i hc
    · have e : openN (addSize c n) i (addSize c n).people.toNat = c.people.toNat := openN_all (fun p => by
        refine openB_yes fun k hk hb => ?_
        have := h.bar _ (lp_mem (l := c.bars) hk)
        have e1 : (lp c.bars k).1 = (i : Int) := hb.1
        omega) _
      rw [e]; have := h.lo; omega
theorem madeB_good {l : List Int} {i : Nat} {c : CaseD} (h : Good c) : ∀ p, Good (madeB l i c p) ∧ (madeB l i c p).sizes = c.sizes ∧ (madeB l i c p).people = c.people ∧ (madeB l i c p).bars.length ≤ c.bars.length + p
  | 0 => ⟨h, rfl, rfl, Nat.le_refl _⟩
  | p + 1 => by
    obtain ⟨h1, h2, h3, h4⟩ := madeB_good h (l := l) (i := i) p
    rw [madeB]
    split
    · rename_i g
      exact ⟨valid_good g.2, h2, h3, by simp [addBar]; omega⟩
    · exact ⟨h1, h2, h3, by omega⟩
theorem madeI_good {l : List Int} {people : Int} (h2 : 2 ≤ people) (h6 : people ≤ 6) : ∀ i, i ≤ 64 → Good (madeI l people i) ∧ (madeI l people i).sizes.length = i ∧ (madeI l people i).people = people ∧ (madeI l people i).bars.length ≤ 6 * i
  | 0, _ => ⟨⟨Nat.zero_le _, h2, h6, fun x hx => (by cases hx), fun x hx => (by cases hx), fun i hi => absurd hi (Nat.not_lt_zero _)⟩, rfl, rfl, Nat.le_refl _⟩
  | i + 1, hi => by
    obtain ⟨g1, g2, g3, g4⟩ := madeI_good (l := l) h2 h6 i (by omega)
    have a1 := atI_lo (l := l) (i := 3 + 2 * (i : Int)) (m := 9) (by decide)
    have a2 := atI_hi (l := l) (i := 3 + 2 * (i : Int)) (m := 9) (by decide)
    obtain ⟨k1, k2, k3, k4⟩ := madeB_good (l := l) (i := i) (good_size (n := 1 + atI l (3 + 2 * (i : Int)) 9) g1 (by omega) (by omega)) people.toNat
    refine ⟨k1, ?_, k3.trans g3, ?_⟩
    · show (madeB l i _ _).sizes.length = _
      rw [k2]; simp [addSize, g2]
    · show (madeB l i _ _).bars.length ≤ _
      have : (addSize (madeI l people i) (1 + atI l (3 + 2 * (i : Int)) 9)).bars = (madeI l people i).bars := rfl
      rw [this] at k4; omega
theorem made_good (l : List Int) : Good (madeC l) := (madeI_good (madeN_rng l).1 (madeN_rng l).2 _ (by have := madeM_rng l; omega)).1
theorem made_valid (l : List Int) : validC (madeC l) = 0 := valid_of_good (made_good l)
theorem held_of_good {c : CaseD} (h : Good c) (hb : c.bars.length ≤ 1000000) : Held c := by
  have h1 := h.many
  refine ⟨by omega, hb, ?_, fun x hx => ?_, fun p hp => ?_⟩
  · have := h.lo; have := h.hi; unfold I64; omega
  · have := h.size x hx; unfold I64; omega
  · have := h.bar p hp; have := h.hi; unfold I64; omega
structure Good4 (c : CaseD) : Prop where
  many : c.sizes.length ≤ 64
  lo : 2 ≤ c.people
  hi : c.people ≤ 6
  size : ∀ x, x ∈ c.sizes → 1 ≤ x ∧ x ≤ 1024
theorem held_of_good' {c d : CaseD} (h : Good4 c) (hb : d.bars.length ≤ 1000000) (hp : ∀ p, p ∈ d.bars → I64 p.1 ∧ I64 p.2) (hs : d.sizes = c.sizes := by rfl) (hpp : d.people = c.people := by rfl) : Held d := by
  have h1 := h.many
  refine ⟨by rw [hs]; omega, hb, ?_, fun x hx => ?_, hp⟩
  · rw [hpp]; have := h.lo; have := h.hi; unfold I64; omega
  · rw [hs] at hx; have := h.size x hx; unfold I64; omega
theorem made_held (l : List Int) : Held (madeC l) := held_of_good (made_good l) (by
  have := (madeI_good (l := l) (madeN_rng l).1 (madeN_rng l).2 (madeM l).toNat (by have := madeM_rng l; omega)).2.2.2
  have := madeM_rng l
  show (madeI l (madeN l) (madeM l).toNat).bars.length ≤ _; omega)
theorem made_sizes (l : List Int) : (madeC l).sizes.length = (madeM l).toNat := (madeI_good (madeN_rng l).1 (madeN_rng l).2 _ (by have := madeM_rng l; omega)).2.1
theorem made_bars (l : List Int) : (madeC l).bars.length ≤ 72 := by
  have := (madeI_good (l := l) (madeN_rng l).1 (madeN_rng l).2 (madeM l).toNat (by have := madeM_rng l; omega)).2.2.2
  have := madeM_rng l
  show (madeI l (madeN l) (madeM l).toNat).bars.length ≤ _; omega
theorem mk_0 {l : List Int} (h : atI l 0 4 = 0) : madeN l = 5 + atI l 1 2 ∧ madeM l = atI l 2 5 := ⟨if_pos h, if_pos h⟩
theorem mk_1 {l : List Int} (h : atI l 0 4 = 1) : madeN l = 2 + atI l 1 3 ∧ madeM l = 7 + atI l 2 6 := by
  unfold madeN madeM; rw [if_neg (by omega), if_neg (by omega), if_pos h]; exact ⟨rfl, rfl⟩
theorem mk_2 {l : List Int} (h : ¬ atI l 0 4 = 0) (h2 : ¬ atI l 0 4 = 1) : madeN l = 2 + atI l 1 3 ∧ madeM l = atI l 2 7 := by
  unfold madeN madeM; rw [if_neg h, if_neg h, if_neg h2]; exact ⟨rfl, rfl⟩
theorem mk_N {l : List Int} (h : ¬ atI l 0 4 = 0) : madeN l = 2 + atI l 1 3 := if_neg h
theorem Made_pure (l : List Int) (hl : Fits l) : Pure Try.prog 10 [ints l] (encC (madeC l)) [] := by
  have h1 := atI_lo (l := l) (i := 1) (m := 2) (by decide)
  have h2 := atI_hi (l := l) (i := 1) (m := 2) (by decide)
  have h3 := atI_lo (l := l) (i := 1) (m := 3) (by decide)
  have h4 := atI_hi (l := l) (i := 1) (m := 3) (by decide)
  have h5 := atI_lo (l := l) (i := 2) (m := 6) (by decide)
  have h6 := atI_hi (l := l) (i := 2) (m := 6) (by decide)
  have h7 := atI_lo (l := l) (i := 2) (m := 7) (by decide)
  have h8 := atI_hi (l := l) (i := 2) (m := 7) (by decide)
  have h9 := atI_lo (l := l) (i := 2) (m := 5) (by decide)
  have h0 := atI_hi (l := l) (i := 2) (m := 5) (by decide)
  have hN := madeN_rng l
  have hM := madeM_rng l
  have hfin : madeC l = madeI l (madeN l) (madeM l).toNat := rfl
  refine Pure.introR (rv := [.cell 2 25]) Try.func10 (by kernel_rfl) rfl rfl rfl (Nat.le_of_ble_eq_true rfl) ?_ ?_
  · simp [pure_ints, pure_strs, encI, encS, PV.pure, pureL]
  refine sZ [0, 2] (fun P S K => XvAlloc P 25 S.nx (fun r0 ef0 => K ⟨[(0, S.get 0), (2, r0)], (Eff.hp ef0 S.nx S.hp), (S.nx + ef0.add.length), S.gh⟩)) fun K hK => ?_
  repeat' (first | (refine hK _ ?_; clear hK K) | refine And.intro ?_ ?_ | exact cl | exact one_encP _ | (refine st ?_; try simp only [encC, pairs, zeroCase]) | simp only [encC, pairs, zeroCase])
  all_goals
  refine sZ [0, 2, 3] (fun P S K => XvFnIV P (M S.hp S.nx) (.fn 36 []) [(S.get 0), (.atom (.int .i64 0)), (.atom (.int .i64 4))] (fun r1 ef1 => K ⟨[(0, S.get 0), (2, S.get 2), (3, r1)], (Eff.hp ef1 S.nx S.hp), (S.nx + ef1.add.length), S.gh⟩)) fun K hK => ?_
  repeat' (first | (refine hK _ ?_; clear hK K) | refine And.intro ?_ ?_ | exact cl | exact one_encP _ | refine .inl ⟨_, _, At_pure l 0 4 hl (by unfold I64; omega) (by decide), ?_⟩ | refine .inl ⟨_, _, At_pure l 1 3 hl (by unfold I64; omega) (by decide), ?_⟩ | refine .inl ⟨_, _, At_pure l 2 7 hl (by unfold I64; omega) (by decide), ?_⟩ | refine .inl ⟨_, _, At_pure l 1 2 hl (by unfold I64; omega) (by decide), ?_⟩ | refine .inl ⟨_, _, At_pure l 2 5 hl (by unfold I64; omega) (by decide), ?_⟩ | refine .inl ⟨_, _, At_pure l 2 6 hl (by unfold I64; omega) (by decide), ?_⟩ | refine .inl ⟨_, _, At_pure l (3 + 2 * (i : Int)) 9 hl (by unfold I64; omega) (by decide), ?_⟩ | refine .inl ⟨_, _, At_pure l (4 + 2 * (i : Int)) 64 hl (by unfold I64; omega) (by decide), ?_⟩ | refine .inl ⟨_, _, hV, ?_⟩ | (refine st ?_; try simp only [encC, pairs, zeroCase]) | simp only [encC, pairs, zeroCase])
  all_goals
  refine sZ [0, 2, 3, 4] (fun P S K => XvFnIV P (M S.hp S.nx) (.fn 36 []) [(S.get 0), (.atom (.int .i64 1)), (.atom (.int .i64 3))] (fun r1 ef1 => XvBinOV P .add 3 (.tmp 12) (.atom (.int .i64 2)) r1 (fun r2 _ => XvBuild P 25 [(1, r2)] (fun r3 _ => XvAlloc P 25 (S.nx + ef1.add.length) (fun r4 ef4 => XvStore P 25 (M (Eff.hp ef4 (S.nx + ef1.add.length) (Eff.hp ef1 S.nx S.hp)) ((S.nx + ef1.add.length) + ef4.add.length)) r4 r3 (fun r5 ef5 => K ⟨[(0, S.get 0), (2, S.get 2), (3, S.get 3), (4, r4)], (Eff.hp ef5 ((S.nx + ef1.add.length) + ef4.add.length) (Eff.hp ef4 (S.nx + ef1.add.length) (Eff.hp ef1 S.nx S.hp))), (((S.nx + ef1.add.length) + ef4.add.length) + ef5.add.length), S.gh⟩)))))) fun K hK => ?_
  repeat' (first | (refine hK _ ?_; clear hK K) | refine And.intro ?_ ?_ | exact cl | exact one_encP _ | refine .inl ⟨_, _, At_pure l 0 4 hl (by unfold I64; omega) (by decide), ?_⟩ | refine .inl ⟨_, _, At_pure l 1 3 hl (by unfold I64; omega) (by decide), ?_⟩ | refine .inl ⟨_, _, At_pure l 2 7 hl (by unfold I64; omega) (by decide), ?_⟩ | refine .inl ⟨_, _, At_pure l 1 2 hl (by unfold I64; omega) (by decide), ?_⟩ | refine .inl ⟨_, _, At_pure l 2 5 hl (by unfold I64; omega) (by decide), ?_⟩ | refine .inl ⟨_, _, At_pure l 2 6 hl (by unfold I64; omega) (by decide), ?_⟩ | refine .inl ⟨_, _, At_pure l (3 + 2 * (i : Int)) 9 hl (by unfold I64; omega) (by decide), ?_⟩ | refine .inl ⟨_, _, At_pure l (4 + 2 * (i : Int)) 64 hl (by unfold I64; omega) (by decide), ?_⟩ | refine .inl ⟨_, _, hV, ?_⟩ | (refine st ?_; try simp only [encC, pairs, zeroCase]) | simp only [encC, pairs, zeroCase])
  all_goals try simp (disch := omega) only [wrap_id, wrap8_id]
  all_goals
  refine sZ [0, 2, 3, 4, 5] (fun P S K => XvFnIV P (M S.hp S.nx) (.fn 36 []) [(S.get 0), (.atom (.int .i64 2)), (.atom (.int .i64 7))] (fun r1 ef1 => K ⟨[(0, S.get 0), (2, S.get 2), (3, S.get 3), (4, S.get 4), (5, r1)], (Eff.hp ef1 S.nx S.hp), (S.nx + ef1.add.length), S.gh⟩)) fun K hK => ?_
  repeat' (first | (refine hK _ ?_; clear hK K) | refine And.intro ?_ ?_ | exact cl | exact one_encP _ | refine .inl ⟨_, _, At_pure l 0 4 hl (by unfold I64; omega) (by decide), ?_⟩ | refine .inl ⟨_, _, At_pure l 1 3 hl (by unfold I64; omega) (by decide), ?_⟩ | refine .inl ⟨_, _, At_pure l 2 7 hl (by unfold I64; omega) (by decide), ?_⟩ | refine .inl ⟨_, _, At_pure l 1 2 hl (by unfold I64; omega) (by decide), ?_⟩ | refine .inl ⟨_, _, At_pure l 2 5 hl (by unfold I64; omega) (by decide), ?_⟩ | refine .inl ⟨_, _, At_pure l 2 6 hl (by unfold I64; omega) (by decide), ?_⟩ | refine .inl ⟨_, _, At_pure l (3 + 2 * (i : Int)) 9 hl (by unfold I64; omega) (by decide), ?_⟩ | refine .inl ⟨_, _, At_pure l (4 + 2 * (i : Int)) 64 hl (by unfold I64; omega) (by decide), ?_⟩ | refine .inl ⟨_, _, hV, ?_⟩ | (refine st ?_; try simp only [encC, pairs, zeroCase]) | simp only [encC, pairs, zeroCase])
  all_goals
  refine Tri.cut (α := (mm : Int) ×' (0 ≤ mm ∧ mm ≤ 12 ∧ (¬ atI l 0 4 = 1 → madeM l = mm))) (fun ⟨mm, hm0, hm1, hm2⟩ => ⟨[(0, ints l), (2, .ptr 0 3 0 0), (3, encI (atI l 0 4)), (4, .ptr 1 3 0 0), (5, encI mm)], [(0, some ⟨3, [zeroCase]⟩), (1, some ⟨3, [.agg [.atom (.slice none 0 0), encI (madeN l), .atom (.slice none 0 0)]]⟩)], 2, []⟩) ?_ ?_
  ·skip
   refine sZ [0, 2, 3, 4, 5, 18] (fun P S K => XvBinOV P .eql 3 (.const (.int .i64 0)) (S.get 3) (.atom (.int .i64 0)) (fun r1 _ => K ⟨[(0, S.get 0), (2, S.get 2), (3, S.get 3), (4, S.get 4), (5, S.get 5), (18, r1)], S.hp, S.nx, S.gh⟩)) fun K hK => ?_
   repeat' (first | (refine hK _ ?_; clear hK K) | refine And.intro ?_ ?_ | exact cl | exact one_encP _ | (refine st ?_; try simp only [encC, pairs, zeroCase]) | simp only [encC, pairs, zeroCase])
   all_goals
   refine Tri.cond rfl (fun h18 => ?_) (fun h18 => ?_)
   ·try (cases h18; done)
    all_goals (try simp only [CQ] at h18)
    all_goals
    refine sZ [0, 2, 3, 4] (fun P S K => XvFnIV P (M S.hp S.nx) (.fn 36 []) [(S.get 0), (.atom (.int .i64 1)), (.atom (.int .i64 2))] (fun r1 ef1 => XvBinOV P .add 3 (.tmp 20) (.atom (.int .i64 5)) r1 (fun r2 _ => XvFieldAddr P 25 1 (S.get 4) (fun r3 _ => XvStore P 3 (M (Eff.hp ef1 S.nx S.hp) (S.nx + ef1.add.length)) r3 r2 (fun r4 ef4 => K ⟨[(0, S.get 0), (2, S.get 2), (3, S.get 3), (4, S.get 4)], (Eff.hp ef4 (S.nx + ef1.add.length) (Eff.hp ef1 S.nx S.hp)), ((S.nx + ef1.add.length) + ef4.add.length), S.gh⟩))))) fun K hK => ?_
    repeat' (first | (refine hK _ ?_; clear hK K) | refine And.intro ?_ ?_ | exact cl | exact one_encP _ | refine .inl ⟨_, _, At_pure l 0 4 hl (by unfold I64; omega) (by decide), ?_⟩ | refine .inl ⟨_, _, At_pure l 1 3 hl (by unfold I64; omega) (by decide), ?_⟩ | refine .inl ⟨_, _, At_pure l 2 7 hl (by unfold I64; omega) (by decide), ?_⟩ | refine .inl ⟨_, _, At_pure l 1 2 hl (by unfold I64; omega) (by decide), ?_⟩ | refine .inl ⟨_, _, At_pure l 2 5 hl (by unfold I64; omega) (by decide), ?_⟩ | refine .inl ⟨_, _, At_pure l 2 6 hl (by unfold I64; omega) (by decide), ?_⟩ | refine .inl ⟨_, _, At_pure l (3 + 2 * (i : Int)) 9 hl (by unfold I64; omega) (by decide), ?_⟩ | refine .inl ⟨_, _, At_pure l (4 + 2 * (i : Int)) 64 hl (by unfold I64; omega) (by decide), ?_⟩ | refine .inl ⟨_, _, hV, ?_⟩ | (refine st ?_; try simp only [encC, pairs, zeroCase]) | simp only [encC, pairs, zeroCase])
    all_goals try simp (disch := omega) only [wrap_id, wrap8_id]
    all_goals
    refine rZ [0, 2, 3, 4, 5] (fun P S K => XvFnIV P (M S.hp S.nx) (.fn 36 []) [(S.get 0), (.atom (.int .i64 2)), (.atom (.int .i64 5))] (fun r1 ef1 => K ⟨[(0, S.get 0), (2, S.get 2), (3, S.get 3), (4, S.get 4), (5, r1)], (Eff.hp ef1 S.nx S.hp), (S.nx + ef1.add.length), S.gh⟩)) fun K hK => ?_
    repeat' (first | (refine hK _ ?_; clear hK K) | refine And.intro ?_ ?_ | exact cl | exact one_encP _ | refine .inl ⟨_, _, At_pure l 0 4 hl (by unfold I64; omega) (by decide), ?_⟩ | refine .inl ⟨_, _, At_pure l 1 3 hl (by unfold I64; omega) (by decide), ?_⟩ | refine .inl ⟨_, _, At_pure l 2 7 hl (by unfold I64; omega) (by decide), ?_⟩ | refine .inl ⟨_, _, At_pure l 1 2 hl (by unfold I64; omega) (by decide), ?_⟩ | refine .inl ⟨_, _, At_pure l 2 5 hl (by unfold I64; omega) (by decide), ?_⟩ | refine .inl ⟨_, _, At_pure l 2 6 hl (by unfold I64; omega) (by decide), ?_⟩ | refine .inl ⟨_, _, At_pure l (3 + 2 * (i : Int)) 9 hl (by unfold I64; omega) (by decide), ?_⟩ | refine .inl ⟨_, _, At_pure l (4 + 2 * (i : Int)) 64 hl (by unfold I64; omega) (by decide), ?_⟩ | refine .inl ⟨_, _, hV, ?_⟩ | (refine st ?_; try simp only [encC, pairs, zeroCase]) | simp only [encC, pairs, zeroCase])
    all_goals
    first | rw [(mk_0 (by assumption)).1] | rw [mk_N (by assumption)]
    refine ⟨(by first | exact ⟨atI l 2 5, by omega, by omega, fun _ => (mk_0 (by assumption)).2⟩ | exact ⟨atI l 2 7, by omega, by omega, fun h => (mk_2 (by assumption) h).2⟩), [0, 1], ?_⟩
    exact leqB16
   ·try (cases h18; done)
    all_goals (try simp only [CQ] at h18)
    all_goals
    refine Tri.skip ?_
    first | rw [(mk_0 (by assumption)).1] | rw [mk_N (by assumption)]
    refine ⟨(by first | exact ⟨atI l 2 5, by omega, by omega, fun _ => (mk_0 (by assumption)).2⟩ | exact ⟨atI l 2 7, by omega, by omega, fun h => (mk_2 (by assumption) h).2⟩), [0, 1], ?_⟩
    exact leqB16
  ·rintro ⟨mm, hm0, hm1, hm2⟩
   refine Tri.cut (α := Unit) (fun ⟨⟩ => ⟨[(0, ints l), (2, .ptr 0 3 0 0), (4, .ptr 1 3 0 0), (5, encI (madeM l))], [(0, some ⟨3, [zeroCase]⟩), (1, some ⟨3, [.agg [.atom (.slice none 0 0), encI (madeN l), .atom (.slice none 0 0)]]⟩)], 2, []⟩) ?_ ?_
   ·skip
    refine sZ [0, 2, 4, 5, 26] (fun P S K => XvBinOV P .eql 3 (.const (.int .i64 1)) (S.get 3) (.atom (.int .i64 1)) (fun r1 _ => K ⟨[(0, S.get 0), (2, S.get 2), (4, S.get 4), (5, S.get 5), (26, r1)], S.hp, S.nx, S.gh⟩)) fun K hK => ?_
    repeat' (first | (refine hK _ ?_; clear hK K) | refine And.intro ?_ ?_ | exact cl | exact one_encP _ | (refine st ?_; try simp only [encC, pairs, zeroCase]) | simp only [encC, pairs, zeroCase])
    all_goals
    refine Tri.cond rfl (fun h26 => ?_) (fun h26 => ?_)
    ·try (cases h26; done)
     all_goals (try simp only [CQ] at h26)
     all_goals
     refine rZ [0, 2, 4, 5] (fun P S K => XvFnIV P (M S.hp S.nx) (.fn 36 []) [(S.get 0), (.atom (.int .i64 2)), (.atom (.int .i64 6))] (fun r1 ef1 => XvBinOV P .add 3 (.tmp 28) (.atom (.int .i64 7)) r1 (fun r2 _ => K ⟨[(0, S.get 0), (2, S.get 2), (4, S.get 4), (5, r2)], (Eff.hp ef1 S.nx S.hp), (S.nx + ef1.add.length), S.gh⟩))) fun K hK => ?_
     repeat' (first | (refine hK _ ?_; clear hK K) | refine And.intro ?_ ?_ | exact cl | exact one_encP _ | refine .inl ⟨_, _, At_pure l 0 4 hl (by unfold I64; omega) (by decide), ?_⟩ | refine .inl ⟨_, _, At_pure l 1 3 hl (by unfold I64; omega) (by decide), ?_⟩ | refine .inl ⟨_, _, At_pure l 2 7 hl (by unfold I64; omega) (by decide), ?_⟩ | refine .inl ⟨_, _, At_pure l 1 2 hl (by unfold I64; omega) (by decide), ?_⟩ | refine .inl ⟨_, _, At_pure l 2 5 hl (by unfold I64; omega) (by decide), ?_⟩ | refine .inl ⟨_, _, At_pure l 2 6 hl (by unfold I64; omega) (by decide), ?_⟩ | refine .inl ⟨_, _, At_pure l (3 + 2 * (i : Int)) 9 hl (by unfold I64; omega) (by decide), ?_⟩ | refine .inl ⟨_, _, At_pure l (4 + 2 * (i : Int)) 64 hl (by unfold I64; omega) (by decide), ?_⟩ | refine .inl ⟨_, _, hV, ?_⟩ | (refine st ?_; try simp only [encC, pairs, zeroCase]) | simp only [encC, pairs, zeroCase])
     all_goals try simp (disch := omega) only [wrap_id, wrap8_id]
     all_goals
     first | rw [(mk_1 (by assumption)).2] | rw [hm2 (by assumption)]
     refine ⟨(), [0, 1], ?_⟩
     exact leqB16
    ·try (cases h26; done)
     all_goals (try simp only [CQ] at h26)
     all_goals
     refine Tri.skip ?_
     first | rw [(mk_1 (by assumption)).2] | rw [hm2 (by assumption)]
     refine ⟨(), [0, 1], ?_⟩
     exact leqB16
   ·rintro ⟨⟩
    refine Tri.seq ?_
    refine Tri.bornF 1 0 1 3 _ rfl rfl ?_
    refine Tri.bornF 1 2 2 3 _ rfl rfl ?_
    generalize hNe : madeN l = N at hN hfin ⊢
    generalize hMe : madeM l = M0 at hM hfin ⊢
    refine sZ [0, 2, 4, 5, 6] (fun P S K => K ⟨[(0, S.get 0), (2, S.get 2), (4, S.get 4), (5, S.get 5), (6, (.atom (.int .i64 0)))], S.hp, S.nx, S.gh⟩) fun K hK => ?_
    repeat' (first | (refine hK _ ?_; clear hK K) | refine And.intro ?_ ?_ | exact cl | exact one_encP _ | (refine st ?_; try simp only [encC, pairs, zeroCase]) | simp only [encC, pairs, zeroCase])
    all_goals
    refine Tri.block ?_
    refine Tri.loop (α := (d0 : CaseD) ×' (i : Nat) ×' ((i : Int) ≤ M0 ∧ d0 = madeI l N i)) (fun z => (fun (d0 : CaseD) (i : Nat) => (⟨[(0, ints l), (2, .ptr 0 3 0 0), (4, .ptr 1 3 0 0), (5, encI M0), (6, encI i)], [(0, some ⟨3, [zeroCase]⟩), (1, some ⟨3, [.agg [.ob 2 1 0 d0.sizes.length, encI N, .ob 3 2 0 d0.bars.length]]⟩), (2, some ⟨1, d0.sizes.map encI⟩), (3, some ⟨2, d0.bars.map encP⟩)], 4, []⟩ : St)) z.1 z.2.1) (fun z => (fun (d0 : CaseD) (i : Nat) => 12 - i) z.1 z.2.1) ⟨⟨[], N, []⟩, 0, ⟨by omega, rfl⟩⟩ [0, 1, 2, 3] ?_ ?_
    ·exact leqB16
    ·rintro ⟨d0, i, ⟨hi, hd⟩⟩
     obtain ⟨g1, g2, g3, g4⟩ := madeI_good (l := l) hN.1 hN.2 i (by omega)
     rw [← hd] at g1 g2 g3 g4
     have hw3 : IntKind.i64.wrap (3 + IntKind.i64.wrap (2 * (i : Int))) = 3 + 2 * (i : Int) := by rw [wrap_id (x := 2 * (i : Int)) (by omega) (by omega), wrap_id (by omega) (by omega)]
     have hw4 : IntKind.i64.wrap (4 + IntKind.i64.wrap (2 * (i : Int))) = 4 + 2 * (i : Int) := by rw [wrap_id (x := 2 * (i : Int)) (by omega) (by omega), wrap_id (by omega) (by omega)]
     have a1 := atI_lo (l := l) (i := 3 + 2 * (i : Int)) (m := 9) (by decide)
     have a2 := atI_hi (l := l) (i := 3 + 2 * (i : Int)) (m := 9) (by decide)
     have a3 := atI_lo (l := l) (i := 4 + 2 * (i : Int)) (m := 64) (by decide)
     have a4 := atI_hi (l := l) (i := 4 + 2 * (i : Int)) (m := 64) (by decide)
     refine Tri.seq ?_
     refine sZ [0, 2, 4, 5, 6, 32] (fun P S K => XvBinOV P .lss 3 (.tmp 31) (S.get 6) (S.get 5) (fun r2 _ => K ⟨[(0, S.get 0), (2, S.get 2), (4, S.get 4), (5, S.get 5), (6, S.get 6), (32, r2)], S.hp, S.nx, S.gh⟩)) fun K hK => ?_
     repeat' (first | (refine hK _ ?_; clear hK K) | refine And.intro ?_ ?_ | exact cl | exact one_encP _ | (refine st ?_; try simp only [encC, pairs, zeroCase]) | simp only [encC, pairs, zeroCase])
     all_goals
     refine Tri.cond rfl (fun h32 => ?_) (fun h32 => ?_)
     ·try (cases h32; done)
      all_goals (try simp only [CQ] at h32)
      all_goals
      refine Tri.skip ?_
      refine Tri.seq ?_
      refine Tri.block ?_
      refine sD 11 [0, 2, 4, 5, 6] (fun P GD S K => XvFieldAddr P 25 0 (S.get 4) (fun r0 ef0 => XvLoad P 22 (M S.hp S.nx) r0 (fun r1 ef1 => XvBinOV P .mul 3 (.tmp 38) (.atom (.int .i64 2)) (S.get 6) (fun r4 ef4 => XvBinOV P .add 3 (.tmp 39) (.atom (.int .i64 3)) r4 (fun r5 ef5 => XvFnV P (M S.hp S.nx) (.fn 36 []) [(S.get 0), r5, (.atom (.int .i64 9))] (fun r6 ef6 => XvBinOV P .add 3 (.tmp 41) (.atom (.int .i64 1)) r6 (fun r7 ef7 => XvBuildS P 22 1 (S.nx + ef6.add.length) [(0, r7)] (fun r8 ef8 => (22 = 22 ∧ XvAppend P 22 (M (Eff.hp ef8 (S.nx + ef6.add.length) (Eff.hp ef6 S.nx S.hp)) ((S.nx + ef6.add.length) + ef8.add.length)) r1 r8 (fun r9 ef9 => XvFieldAddr P 25 0 (S.get 4) (fun r10 ef10 => (trOk S.nx GD [⟨S.nx, 0, ef0.rd, [], []⟩, ⟨S.nx, 0, ef1.rd, [], []⟩, ⟨S.nx, 0, [], [], []⟩, ⟨S.nx, 0, [], [], []⟩, ⟨S.nx, 0, ef4.rd, [], []⟩, ⟨S.nx, 0, ef5.rd, [], []⟩, (Eff.tr ef6 S.nx), ⟨(S.nx + ef6.add.length), 0, ef7.rd, [], []⟩, (Eff.tr ef8 (S.nx + ef6.add.length)), (Eff.tr ef9 ((S.nx + ef6.add.length) + ef8.add.length)), ⟨(((S.nx + ef6.add.length) + ef8.add.length) + ef9.add.length), 0, ef10.rd, [], []⟩] = true ∧ XvStore P 22 (M (Eff.hp ef9 ((S.nx + ef6.add.length) + ef8.add.length) (Eff.hp ef8 (S.nx + ef6.add.length) (Eff.hp ef6 S.nx S.hp))) (((S.nx + ef6.add.length) + ef8.add.length) + ef9.add.length)) r10 r9 (fun r11 ef11 => K ⟨[(0, S.get 0), (2, S.get 2), (4, S.get 4), (5, S.get 5), (6, S.get 6)], (Eff.hp ef11 (((S.nx + ef6.add.length) + ef8.add.length) + ef9.add.length) (Eff.hp ef9 ((S.nx + ef6.add.length) + ef8.add.length) (Eff.hp ef8 (S.nx + ef6.add.length) (Eff.hp ef6 S.nx S.hp)))), ((((S.nx + ef6.add.length) + ef8.add.length) + ef9.add.length) + ef11.add.length), S.gh⟩))))))))))))) fun K hK => ?_
      repeat' (first | (refine hK _ ?_; clear hK K) | (refine (?_ : trOk _ _ _ = true); kernel_rfl) | ((first | refine xG_intro (fun hg => ?_) (fun hg => ?_) | refine fun (hg : (_ : Prop)) => ?_) <;> ((try simp only [BQ] at hg); try (exfalso; omega))) | refine And.intro ?_ ?_ | exact cl | exact one_encP _ | refine one_take ?_ _ | refine one_drop ?_ _ | refine .inl ⟨_, _, At_pure l 0 4 hl (by unfold I64; omega) (by decide), ?_⟩ | refine ⟨_, _, At_pure l 0 4 hl (by unfold I64; omega) (by decide), ?_⟩ | refine .inl ⟨_, _, At_pure l 1 3 hl (by unfold I64; omega) (by decide), ?_⟩ | refine ⟨_, _, At_pure l 1 3 hl (by unfold I64; omega) (by decide), ?_⟩ | refine .inl ⟨_, _, At_pure l 2 7 hl (by unfold I64; omega) (by decide), ?_⟩ | refine ⟨_, _, At_pure l 2 7 hl (by unfold I64; omega) (by decide), ?_⟩ | refine .inl ⟨_, _, At_pure l 1 2 hl (by unfold I64; omega) (by decide), ?_⟩ | refine ⟨_, _, At_pure l 1 2 hl (by unfold I64; omega) (by decide), ?_⟩ | refine .inl ⟨_, _, At_pure l 2 5 hl (by unfold I64; omega) (by decide), ?_⟩ | refine ⟨_, _, At_pure l 2 5 hl (by unfold I64; omega) (by decide), ?_⟩ | refine .inl ⟨_, _, At_pure l 2 6 hl (by unfold I64; omega) (by decide), ?_⟩ | refine ⟨_, _, At_pure l 2 6 hl (by unfold I64; omega) (by decide), ?_⟩ | refine .inl ⟨_, _, At_pure l (3 + 2 * (i : Int)) 9 hl (by unfold I64; omega) (by decide), ?_⟩ | refine ⟨_, _, At_pure l (3 + 2 * (i : Int)) 9 hl (by unfold I64; omega) (by decide), ?_⟩ | refine .inl ⟨_, _, At_pure l (4 + 2 * (i : Int)) 64 hl (by unfold I64; omega) (by decide), ?_⟩ | refine ⟨_, _, At_pure l (4 + 2 * (i : Int)) 64 hl (by unfold I64; omega) (by decide), ?_⟩ | refine .inl ⟨_, _, hV, ?_⟩ | refine ⟨_, _, hV, ?_⟩ | (refine st ?_; try simp only [encC, pairs, zeroCase, hw3]) | simp only [encC, pairs, zeroCase, hw3])
      all_goals try simp (disch := omega) only [wrap_id, wrap8_id]
      all_goals
      refine sZ [0, 2, 4, 5, 6, 7] (fun P S K => K ⟨[(0, S.get 0), (2, S.get 2), (4, S.get 4), (5, S.get 5), (6, S.get 6), (7, (.atom (.int .i64 0)))], S.hp, S.nx, S.gh⟩) fun K hK => ?_
      repeat' (first | (refine hK _ ?_; clear hK K) | refine And.intro ?_ ?_ | exact cl | exact one_encP _ | (refine st ?_; try simp only [encC, pairs, zeroCase]) | simp only [encC, pairs, zeroCase])
      all_goals
      refine Tri.block ?_
      refine Tri.loop (α := (d : CaseD) ×' (p : Nat) ×' (((p : Int) ≤ N ∧ i < M0) ∧ d = madeB l i (addSize (madeI l N i) (1 + atI l (3 + 2 * (i : Int)) 9)) p)) (fun z => (fun (d : CaseD) (p : Nat) => (⟨[(0, ints l), (2, .ptr 0 3 0 0), (4, .ptr 1 3 0 0), (5, encI M0), (6, encI i), (7, encI p)], [(0, some ⟨3, [zeroCase]⟩), (1, some ⟨3, [.agg [.ob 2 1 0 d.sizes.length, encI N, .ob 3 2 0 d.bars.length]]⟩), (2, some ⟨1, d.sizes.map encI⟩), (3, some ⟨2, d.bars.map encP⟩)], 4, []⟩ : St)) z.1 z.2.1) (fun z => (fun (d : CaseD) (p : Nat) => 6 - p) z.1 z.2.1) ⟨addSize d0 (1 + atI l (3 + 2 * (i : Int)) 9), 0, ⟨⟨by omega, by omega⟩, by rw [hd]; rfl⟩⟩ [0, 1, 5, 3] ?_ ?_
      ·exact leqB16
      ·rintro ⟨d, p, ⟨⟨hp, hiM⟩, hd2⟩⟩
       obtain ⟨k1, k2, k3, k4⟩ := madeB_good (l := l) (i := i) (good_size (n := 1 + atI l (3 + 2 * (i : Int)) 9) (hd ▸ g1) (by rw [← hd]; omega) (by omega)) p
       rw [← hd2] at k1 k2 k3 k4
       have kb : d.bars.length ≤ 100 := by
         have e0 : (addSize (madeI l N i) (1 + atI l (3 + 2 * (i : Int)) 9)).bars = d0.bars := by rw [hd]; rfl
         rw [e0] at k4; omega
       have ks : d.sizes.length = i + 1 := by rw [k2]; simp [addSize, ← hd, g2]
       have kp : d.people = N := k3.trans (hd ▸ g3)
       have hH : i < M0 → (p : Int) < N → Held (addBar d i p) := fun q1 q2 => by
         refine held_of_good' ⟨k1.many, k1.lo, k1.hi, k1.size⟩ (by simp [addBar]; omega) ?_
         intro b hb
         rcases List.mem_append.1 hb with hb | hb
         · have := k1.bar b hb; unfold I64; omega
         · rw [List.mem_singleton.1 hb]; unfold I64; omega
       have hst : madeB l i (addSize (madeI l N i) (1 + atI l (3 + 2 * (i : Int)) 9)) (p + 1) = if barB l i p = true ∧ validC (addBar d i p) = 0 then addBar d i p else d := by rw [hd2]; rfl
       refine Tri.seq ?_
       refine sZ [0, 2, 4, 5, 6, 7, 49] (fun P S K => XvFieldAddr P 25 1 (S.get 4) (fun r1 _ => XvLoad P 3 (M S.hp S.nx) r1 (fun r2 _ => XvBinOV P .lss 3 (.tmp 48) (S.get 7) r2 (fun r3 _ => K ⟨[(0, S.get 0), (2, S.get 2), (4, S.get 4), (5, S.get 5), (6, S.get 6), (7, S.get 7), (49, r3)], S.hp, S.nx, S.gh⟩)))) fun K hK => ?_
       repeat' (first | (refine hK _ ?_; clear hK K) | refine And.intro ?_ ?_ | exact cl | exact one_encP _ | refine one_take ?_ _ | refine one_drop ?_ _ | (refine st ?_; try simp only [encC, pairs, zeroCase]) | simp only [encC, pairs, zeroCase])
       all_goals
       refine Tri.cond rfl (fun h49 => ?_) (fun h49 => ?_)
       ·try (cases h49; done)
        all_goals (try simp only [CQ] at h49)
        all_goals
        refine Tri.skip ?_
        refine Tri.seq ?_
        refine Tri.block ?_
        refine Tri.cut (α := Unit) (fun ⟨⟩ => ⟨[(0, ints l), (2, .ptr 0 3 0 0), (4, .ptr 1 3 0 0), (5, encI M0), (6, encI i), (7, encI p), (8, .ptr 4 3 0 0)], [(0, some ⟨3, [zeroCase]⟩), (1, some ⟨3, [.agg [.ob 2 1 0 d.sizes.length, encI N, .ob 3 2 0 d.bars.length]]⟩), (2, some ⟨1, d.sizes.map encI⟩), (3, some ⟨2, d.bars.map encP⟩), (4, some ⟨3, [.agg [.ob 2 1 0 d.sizes.length, encI N, .ob 5 2 0 (d.bars ++ [((i : Int), (p : Int))]).length]]⟩), (5, some ⟨2, (d.bars ++ [((i : Int), (p : Int))]).map encP⟩)], 6, []⟩) ?_ ?_
        ·skip
         refine rD 15 [0, 2, 4, 5, 6, 7, 8] (fun P GD S K => XvFieldAddr P 25 0 (S.get 4) (fun r0 ef0 => XvLoad P 22 (M S.hp S.nx) r0 (fun r1 ef1 => XvFieldAddr P 25 1 (S.get 4) (fun r2 ef2 => XvLoad P 3 (M S.hp S.nx) r2 (fun r3 ef3 => XvBuildS P 23 0 S.nx [] (fun r4 ef4 => XvFieldAddr P 25 2 (S.get 4) (fun r5 ef5 => XvLoad P 23 (M (Eff.hp ef4 S.nx S.hp) (S.nx + ef4.add.length)) r5 (fun r6 ef6 => (23 = 23 ∧ XvAppend P 23 (M (Eff.hp ef4 S.nx S.hp) (S.nx + ef4.add.length)) r4 r6 (fun r7 ef7 => XvBuild P 67 [(0, (S.get 6)), (1, (S.get 7))] (fun r10 ef10 => XvBuildS P 23 1 ((S.nx + ef4.add.length) + ef7.add.length) [(0, r10)] (fun r11 ef11 => (23 = 23 ∧ XvAppend P 23 (M (Eff.hp ef11 ((S.nx + ef4.add.length) + ef7.add.length) (Eff.hp ef7 (S.nx + ef4.add.length) (Eff.hp ef4 S.nx S.hp))) (((S.nx + ef4.add.length) + ef7.add.length) + ef11.add.length)) r7 r11 (fun r12 ef12 => XvBuild P 25 [(0, r1), (1, r3), (2, r12)] (fun r13 ef13 => XvAlloc P 25 ((((S.nx + ef4.add.length) + ef7.add.length) + ef11.add.length) + ef12.add.length) (fun r14 ef14 => (trOk S.nx GD [⟨S.nx, 0, ef0.rd, [], []⟩, ⟨S.nx, 0, ef1.rd, [], []⟩, ⟨S.nx, 0, ef2.rd, [], []⟩, ⟨S.nx, 0, ef3.rd, [], []⟩, (Eff.tr ef4 S.nx), ⟨(S.nx + ef4.add.length), 0, ef5.rd, [], []⟩, ⟨(S.nx + ef4.add.length), 0, ef6.rd, [], []⟩, (Eff.tr ef7 (S.nx + ef4.add.length)), ⟨((S.nx + ef4.add.length) + ef7.add.length), 0, [], [], []⟩, ⟨((S.nx + ef4.add.length) + ef7.add.length), 0, [], [], []⟩, ⟨((S.nx + ef4.add.length) + ef7.add.length), 0, ef10.rd, [], []⟩, (Eff.tr ef11 ((S.nx + ef4.add.length) + ef7.add.length)), (Eff.tr ef12 (((S.nx + ef4.add.length) + ef7.add.length) + ef11.add.length)), ⟨((((S.nx + ef4.add.length) + ef7.add.length) + ef11.add.length) + ef12.add.length), 0, ef13.rd, [], []⟩, (Eff.tr ef14 ((((S.nx + ef4.add.length) + ef7.add.length) + ef11.add.length) + ef12.add.length))] = true ∧ XvStore P 25 (M (Eff.hp ef14 ((((S.nx + ef4.add.length) + ef7.add.length) + ef11.add.length) + ef12.add.length) (Eff.hp ef12 (((S.nx + ef4.add.length) + ef7.add.length) + ef11.add.length) (Eff.hp ef11 ((S.nx + ef4.add.length) + ef7.add.length) (Eff.hp ef7 (S.nx + ef4.add.length) (Eff.hp ef4 S.nx S.hp))))) (((((S.nx + ef4.add.length) + ef7.add.length) + ef11.add.length) + ef12.add.length) + ef14.add.length)) r14 r13 (fun r15 ef15 => K ⟨[(0, S.get 0), (2, S.get 2), (4, S.get 4), (5, S.get 5), (6, S.get 6), (7, S.get 7), (8, r14)], (Eff.hp ef15 (((((S.nx + ef4.add.length) + ef7.add.length) + ef11.add.length) + ef12.add.length) + ef14.add.length) (Eff.hp ef14 ((((S.nx + ef4.add.length) + ef7.add.length) + ef11.add.length) + ef12.add.length) (Eff.hp ef12 (((S.nx + ef4.add.length) + ef7.add.length) + ef11.add.length) (Eff.hp ef11 ((S.nx + ef4.add.length) + ef7.add.length) (Eff.hp ef7 (S.nx + ef4.add.length) (Eff.hp ef4 S.nx S.hp)))))), ((((((S.nx + ef4.add.length) + ef7.add.length) + ef11.add.length) + ef12.add.length) + ef14.add.length) + ef15.add.length), S.gh⟩)))))))))))))))))) fun K hK => ?_
         repeat' (first | (refine hK _ ?_; clear hK K) | (refine (?_ : trOk _ _ _ = true); kernel_rfl) | ((first | refine xG_intro (fun hg => ?_) (fun hg => ?_) | refine fun (hg : (_ : Prop)) => ?_) <;> ((try simp only [BQ] at hg); try (exfalso; omega))) | refine And.intro ?_ ?_ | exact cl | exact one_encP _ | refine one_take ?_ _ | refine one_drop ?_ _ | (refine st ?_; try simp only [encC, pairs, zeroCase]) | simp only [encC, pairs, zeroCase])
         all_goals
         refine ⟨(), [0, 1, 2, 3, 8, 7], ?_⟩
         exact leqB16
        ·rintro ⟨⟩
         have hV : Pure Try.prog 17 [.agg [ints d.sizes, encI N, pairs (d.bars ++ [((i : Int), (p : Int))])]] (encI (validC (addBar d i p))) [] := by
           have := rValid_pure (addBar d i p) (hH (by omega) (by omega))
           rw [show encC (addBar d i p) = .agg [ints d.sizes, encI N, pairs (d.bars ++ [((i : Int), (p : Int))])] by simp [encC, addBar, kp]] at this
           exact this
         generalize hnb : d.bars ++ [((i : Int), (p : Int))] = nb at hV ⊢
         refine sZ [0, 2, 4, 5, 6, 7, 8, 79] (fun P S K => XvBinOV P .mul 3 (.tmp 67) (.atom (.int .i64 2)) (S.get 6) (fun r2 _ => XvBinOV P .add 3 (.tmp 68) (.atom (.int .i64 4)) r2 (fun r3 _ => XvFnIV P (M S.hp S.nx) (.fn 36 []) [(S.get 0), r3, (.atom (.int .i64 64))] (fun r4 ef4 => XvBinOV P .shr 3 (.tmp 71) r4 (S.get 7) (fun r6 _ => XvBinOV P .and 3 (.const (.int .i64 3)) r6 (.atom (.int .i64 3)) (fun r7 _ => XvBinOV P .eql 3 (.const (.int .i64 3)) r7 (.atom (.int .i64 3)) (fun r8 _ => Xgq r8 true (fun k => XvLoad P 25 (M (Eff.hp ef4 S.nx S.hp) (S.nx + ef4.add.length)) (S.get 8) (fun r10 _ => k r10)) (fun g10 r10 => Xge g10 true (fun k => XvFnIV P (M (Eff.hp ef4 S.nx S.hp) (S.nx + ef4.add.length)) (.fn 17 []) [r10] k) (fun g11 r11 ef11 => Xgq g11 true (fun k => XvBinOV P .eql 32 (.const (.int .i64 0)) r11 (.atom (.int .i64 0)) (fun r12 _ => k r12)) (fun g12 r12 => XvPick g12 r12 (.atom (.bool false)) (fun r13 _ => K ⟨[(0, S.get 0), (2, S.get 2), (4, S.get 4), (5, S.get 5), (6, S.get 6), (7, S.get 7), (8, S.get 8), (79, r13)], (Eff.hp ef11 (S.nx + ef4.add.length) (Eff.hp ef4 S.nx S.hp)), ((S.nx + ef4.add.length) + ef11.add.length), S.gh⟩))))))))))) fun K hK => ?_
         repeat' (first | (refine hK _ ?_; clear hK K) | ((first | refine xG_intro (fun hg => ?_) (fun hg => ?_) | refine fun (hg : (_ : Prop)) => ?_) <;> ((try simp only [BQ] at hg); try (exfalso; omega))) | refine And.intro ?_ ?_ | exact cl | exact one_encP _ | refine one_take ?_ _ | refine one_drop ?_ _ | refine .inl ⟨_, _, At_pure l 0 4 hl (by unfold I64; omega) (by decide), ?_⟩ | refine .inl ⟨_, _, At_pure l 1 3 hl (by unfold I64; omega) (by decide), ?_⟩ | refine .inl ⟨_, _, At_pure l 2 7 hl (by unfold I64; omega) (by decide), ?_⟩ | refine .inl ⟨_, _, At_pure l 1 2 hl (by unfold I64; omega) (by decide), ?_⟩ | refine .inl ⟨_, _, At_pure l 2 5 hl (by unfold I64; omega) (by decide), ?_⟩ | refine .inl ⟨_, _, At_pure l 2 6 hl (by unfold I64; omega) (by decide), ?_⟩ | refine .inl ⟨_, _, At_pure l (3 + 2 * (i : Int)) 9 hl (by unfold I64; omega) (by decide), ?_⟩ | refine .inl ⟨_, _, At_pure l (4 + 2 * (i : Int)) 64 hl (by unfold I64; omega) (by decide), ?_⟩ | refine .inl ⟨_, _, hV, ?_⟩ | (refine st ?_; try simp only [encC, pairs, zeroCase, hw4, take_map_len, map_sealed_encI, map_sealed_encP]) | simp only [encC, pairs, zeroCase, hw4, take_map_len, map_sealed_encI, map_sealed_encP])
         all_goals try simp (disch := omega) only [wrap_id, wrap8_id]
         all_goals
         refine Tri.cond rfl (fun h79 => ?_) (fun h79 => ?_)
         ·try (cases h79; done)
          all_goals (try simp only [CQ] at h79)
          all_goals
          refine rZ [0, 2, 4, 5, 6, 7] (fun P S K => XvFieldAddr P 25 2 (S.get 8) (fun r0 _ => XvLoad P 23 (M S.hp S.nx) r0 (fun r1 _ => XvFieldAddr P 25 2 (S.get 4) (fun r2 _ => XvStore P 23 (M S.hp S.nx) r2 r1 (fun r3 ef3 => K ⟨[(0, S.get 0), (2, S.get 2), (4, S.get 4), (5, S.get 5), (6, S.get 6), (7, S.get 7)], (Eff.hp ef3 S.nx S.hp), (S.nx + ef3.add.length), S.gh⟩))))) fun K hK => ?_
          repeat' (first | (refine hK _ ?_; clear hK K) | refine And.intro ?_ ?_ | exact cl | exact one_encP _ | refine one_take ?_ _ | refine one_drop ?_ _ | (refine st ?_; try simp only [encC, pairs, zeroCase]) | simp only [encC, pairs, zeroCase])
          all_goals
          refine rZ [0, 2, 4, 5, 6, 7] (fun P S K => XvBinOV P .add 3 (.const (.int .i64 1)) (S.get 7) (.atom (.int .i64 1)) (fun r1 _ => K ⟨[(0, S.get 0), (2, S.get 2), (4, S.get 4), (5, S.get 5), (6, S.get 6), (7, r1)], S.hp, S.nx, S.gh⟩)) fun K hK => ?_
          repeat' (first | (refine hK _ ?_; clear hK K) | refine And.intro ?_ ?_ | exact cl | exact one_encP _ | (refine st ?_; try simp only [encC, pairs, zeroCase]) | simp only [encC, pairs, zeroCase])
          all_goals try simp (disch := omega) only [wrap_id, wrap8_id]
          all_goals
          first
          | (have e : madeB l i (addSize (madeI l N i) (1 + atI l (3 + 2 * (i : Int)) 9)) (p + 1) = addBar d i p := (by rw [hst, if_pos ⟨decide_eq_true hg, by assumption⟩]); refine ⟨⟨addBar d i p, p + 1, by omega, e.symm⟩, [0, 1, 2, 5], by dsimp only; omega, ?_⟩; subst hnb; exact leqB16)
          | (have e : madeB l i (addSize (madeI l N i) (1 + atI l (3 + 2 * (i : Int)) 9)) (p + 1) = d := (by rw [hst, if_neg (fun q => h79 q.2)]); refine ⟨⟨d, p + 1, by omega, e.symm⟩, [0, 1, 2, 3], by dsimp only; omega, ?_⟩; exact leqB16)
          | (have e : madeB l i (addSize (madeI l N i) (1 + atI l (3 + 2 * (i : Int)) 9)) (p + 1) = d := (by rw [hst, if_neg (fun q => hg (of_decide_eq_true q.1))]); refine ⟨⟨d, p + 1, by omega, e.symm⟩, [0, 1, 2, 3], by dsimp only; omega, ?_⟩; exact leqB16)
         ·try (cases h79; done)
          all_goals (try simp only [CQ] at h79)
          all_goals
          refine Tri.skip ?_
          refine rZ [0, 2, 4, 5, 6, 7] (fun P S K => XvBinOV P .add 3 (.const (.int .i64 1)) (S.get 7) (.atom (.int .i64 1)) (fun r1 _ => K ⟨[(0, S.get 0), (2, S.get 2), (4, S.get 4), (5, S.get 5), (6, S.get 6), (7, r1)], S.hp, S.nx, S.gh⟩)) fun K hK => ?_
          repeat' (first | (refine hK _ ?_; clear hK K) | refine And.intro ?_ ?_ | exact cl | exact one_encP _ | (refine st ?_; try simp only [encC, pairs, zeroCase]) | simp only [encC, pairs, zeroCase])
          all_goals try simp (disch := omega) only [wrap_id, wrap8_id]
          all_goals
          first
          | (have e : madeB l i (addSize (madeI l N i) (1 + atI l (3 + 2 * (i : Int)) 9)) (p + 1) = addBar d i p := (by rw [hst, if_pos ⟨decide_eq_true hg, by assumption⟩]); refine ⟨⟨addBar d i p, p + 1, by omega, e.symm⟩, [0, 1, 2, 5], by dsimp only; omega, ?_⟩; subst hnb; exact leqB16)
          | (have e : madeB l i (addSize (madeI l N i) (1 + atI l (3 + 2 * (i : Int)) 9)) (p + 1) = d := (by rw [hst, if_neg (fun q => h79 q.2)]); refine ⟨⟨d, p + 1, by omega, e.symm⟩, [0, 1, 2, 3], by dsimp only; omega, ?_⟩; exact leqB16)
          | (have e : madeB l i (addSize (madeI l N i) (1 + atI l (3 + 2 * (i : Int)) 9)) (p + 1) = d := (by rw [hst, if_neg (fun q => hg (of_decide_eq_true q.1))]); refine ⟨⟨d, p + 1, by omega, e.symm⟩, [0, 1, 2, 3], by dsimp only; omega, ?_⟩; exact leqB16)
       ·try (cases h49; done)
        all_goals (try simp only [CQ] at h49)
        all_goals
        refine Tri.exit ?_
        refine rZ [0, 2, 4, 5, 6] (fun P S K => XvBinOV P .add 3 (.const (.int .i64 1)) (S.get 6) (.atom (.int .i64 1)) (fun r1 _ => K ⟨[(0, S.get 0), (2, S.get 2), (4, S.get 4), (5, S.get 5), (6, r1)], S.hp, S.nx, S.gh⟩)) fun K hK => ?_
        repeat' (first | (refine hK _ ?_; clear hK K) | refine And.intro ?_ ?_ | exact cl | exact one_encP _ | (refine st ?_; try simp only [encC, pairs, zeroCase]) | simp only [encC, pairs, zeroCase])
        all_goals try simp (disch := omega) only [wrap_id, wrap8_id]
        all_goals
        obtain rfl : p = N.toNat := by omega
        refine ⟨⟨d, i + 1, by omega, hd2⟩, [0, 1, 2, 3], by dsimp only; omega, ?_⟩
        exact leqB16
     ·try (cases h32; done)
      all_goals (try simp only [CQ] at h32)
      all_goals
      refine Tri.exit ?_
      obtain rfl : i = M0.toNat := by omega
      refine sZ [2] (fun P S K => XvLoad P 25 (M S.hp S.nx) (S.get 4) (fun r0 _ => XvStore P 25 (M S.hp S.nx) (S.get 2) r0 (fun r1 ef1 => K ⟨[(2, S.get 2)], (Eff.hp ef1 S.nx S.hp), (S.nx + ef1.add.length), S.gh⟩))) fun K hK => ?_
      repeat' (first | (refine hK _ ?_; clear hK K) | refine And.intro ?_ ?_ | exact cl | exact one_encP _ | refine one_take ?_ _ | refine one_drop ?_ _ | (refine st ?_; try simp only [encC, pairs, zeroCase]) | simp only [encC, pairs, zeroCase])
      all_goals
      refine Tri.ret ?_
      show ResR _ _ _ _ _
      rw [show madeC l = d0 by rw [hfin, hd]]
      refine ResR.cell1 (PV.agg [_, _, _]) rfl ?_ (pure_case _)
      simp [-List.map_map, sealed, St.obj, lk, encC, ints, pairs, map_sealed_encI, map_sealed_encP, g3, take_map_len]
end Go.Proofs.Ytcdeilgijleoaaa
