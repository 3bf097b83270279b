/-
  Plain: cases of package assign, and what the reference model says of them.
-/
import Derived.Test.YtcdeilgijleoaaaNA1
set_option linter.all false
namespace Go.Proofs.Ytcdeilgijleoaaa
open Go Go.RowKit
structure CaseD where
  sizes : List Int
  people : Int
  bars : List (Int × Int)
def encC (c : CaseD) : PV := .agg [ints c.sizes, encI c.people, pairs c.bars]
theorem pure_case (c : CaseD) : (encC c).pure = true := by simp [encC, PV.pure, pureL, pure_ints, pure_pairs, encI]
theorem ren_case (ρ : Nat → Nat) (c : CaseD) : (encC c).ren ρ = encC c := ren_pure ρ _ (pure_case c)
structure Held (c : CaseD) : Prop where
  sizes : c.sizes.length ≤ 1000000
  bars : c.bars.length ≤ 1000000
  people : I64 c.people
  size : ∀ x, x ∈ c.sizes → I64 x
  bar : ∀ p, p ∈ c.bars → I64 p.1 ∧ I64 p.2
def isBar (i p : Int) (b : Int × Int) : Bool := decide (b.1 = i) && decide (b.2 = p)
def openB (c : CaseD) (i p : Int) : Bool := !(c.bars.any (isBar i p))
def badS (x : Int) : Bool := decide (x < 1) || decide (1024 < x)
def badB (c : CaseD) (b : Int × Int) : Bool := decide (b.1 < 0) || decide ((c.sizes.length : Int) ≤ b.1) || decide (b.2 < 0) || decide (c.people ≤ b.2)
def openN (c : CaseD) (i : Int) (k : Nat) : Nat := ((List.range k).filter fun (p : Nat) => openB c i p).length
def scant (c : CaseD) (i : Nat) : Bool := decide (openN c i c.people.toNat < 2)
def validC (c : CaseD) : Int := if 64 < c.sizes.length then 4 else if c.people < 2 ∨ 6 < c.people then 1 else if c.sizes.any badS then 1 else if c.bars.any (badB c) then 1 else if (List.range c.sizes.length).any (scant c) then 6 else 0
theorem openN_succ (c : CaseD) (i : Int) (k : Nat) : openN c i (k + 1) = openN c i k + if openB c i k then 1 else 0 := by
  unfold openN
  rw [List.range_succ, List.filter_append, List.length_append]
  by_cases h : openB c i k = true <;> simp [h]
theorem openN_le (c : CaseD) (i : Int) : ∀ k, openN c i k ≤ k
  | 0 => Nat.le_refl _
  | k + 1 => by have := openN_le c i k; rw [openN_succ]; split <;> omega
theorem any_false {α : Type} {p : α → Bool} {l : List α} {d : α} (h : ∀ j, j < l.length → p (l.getD j d) = false) : l.any p = false := by
  rw [Bool.eq_false_iff]
  intro hh
  obtain ⟨x, h1, h2⟩ := List.any_eq_true.1 hh
  obtain ⟨j, hj, rfl⟩ := List.getElem_of_mem h1
  have := h j hj
  simp [List.getD_eq_getElem?_getD, hj] at this
  rw [this] at h2; cases h2
theorem any_true {α : Type} {p : α → Bool} {l : List α} {d : α} {j : Nat} (hj : j < l.length) (h : p (l.getD j d) = true) : l.any p = true := by
  rw [List.any_eq_true]
  have e : l.getD j d = l[j] := by simp [List.getD_eq_getElem?_getD, hj]
  exact ⟨_, by rw [e]; exact List.getElem_mem hj, h⟩
theorem rangeAny_false {p : Nat → Bool} {n : Nat} (h : ∀ j, j < n → p j = false) : (List.range n).any p = false := by
  rw [Bool.eq_false_iff]
  intro hh
  obtain ⟨x, h1, h2⟩ := List.any_eq_true.1 hh
  rw [h x (List.mem_range.1 h1)] at h2; cases h2
theorem rangeAny_true {p : Nat → Bool} {n j : Nat} (hj : j < n) (h : p j = true) : (List.range n).any p = true := List.any_eq_true.2 ⟨j, List.mem_range.2 hj, h⟩
structure Good (c : CaseD) : Prop where
  many : c.sizes.length ≤ 64
  lo : 2 ≤ c.people
  hi : c.people ≤ 6
  size : ∀ x, x ∈ c.sizes → 1 ≤ x ∧ x ≤ 1024
  bar : ∀ b, b ∈ c.bars → 0 ≤ b.1 ∧ b.1 < c.sizes.length ∧ 0 ≤ b.2 ∧ b.2 < c.people
  some : ∀ i, i < c.sizes.length → 2 ≤ openN c i c.people.toNat
theorem valid_good {c : CaseD} (h : validC c = 0) : Good c := by
  unfold validC at h
  split at h
  · cases h
  · split at h
    · cases h
    · split at h
      · cases h
      · split at h
        · cases h
        · split at h
          · cases h
          · rename_i h1 h2 h3 h4 h5
            refine ⟨by omega, by omega, by omega, fun x hx => ?_, fun b hb => ?_, fun i hi => ?_⟩
            · have : ¬ badS x = true := fun hb => h3 (List.any_eq_true.2 ⟨x, hx, hb⟩)
              unfold badS at this
              simp at this; omega
            · have : ¬ badB c b = true := fun hbb => h4 (List.any_eq_true.2 ⟨b, hb, hbb⟩)
              unfold badB at this
              simp at this; omega
            · have : ¬ scant c i = true := fun hb => h5 (List.any_eq_true.2 ⟨i, List.mem_range.2 hi, hb⟩)
              unfold scant at this
              simp at this; omega
def badPair (c : CaseD) (i : Nat) (x : Int × Int) : Bool := decide (x.1 < 0) || decide (x.2 ≤ x.1) || decide (c.people ≤ x.2) || !openB c i x.1 || !openB c i x.2
def addAt (l : List Int) (k v : Int) : List Int := l.set k.toNat (li l k.toNat + v)
def loadStep (c : CaseD) (l : List Int) (i : Nat) (x : Int × Int) : List Int := addAt (addAt l x.1 (li c.sizes i)) x.2 (li c.sizes i)
def loadsG (c : CaseD) (ps : List (Int × Int)) : Nat → List Int
  | 0 => List.replicate c.people.toNat 0
  | i + 1 => loadStep c (loadsG c ps i) i (lp ps i)
def loadsE (c : CaseD) (ps : List (Int × Int)) : Int := if validC c ≠ 0 then validC c else if ps.length ≠ c.sizes.length then 1 else if (List.range ps.length).any fun i => badPair c i (lp ps i) then 1 else 0
def loadsR (c : CaseD) (ps : List (Int × Int)) : List Int := if loadsE c ps = 0 then loadsG c ps ps.length else []
theorem addAt_len (l : List Int) (k v : Int) : (addAt l k v).length = l.length := by simp [addAt]
theorem loadsG_len (c : CaseD) (ps : List (Int × Int)) : ∀ i, (loadsG c ps i).length = c.people.toNat
  | 0 => by simp [loadsG]
  | i + 1 => by rw [loadsG, loadStep, addAt_len, addAt_len, loadsG_len c ps i]
theorem addAt_rng {l : List Int} {k v m M : Int} (hl : ∀ x, x ∈ l → 0 ≤ x ∧ x ≤ m) (hv : 0 ≤ v ∧ m + v ≤ M) (h0 : 0 ≤ m) : ∀ x, x ∈ addAt l k v → 0 ≤ x ∧ x ≤ M := by
  intro x hx
  have hli : 0 ≤ li l k.toNat ∧ li l k.toNat ≤ m := by
    by_cases h : k.toNat < l.length
    · exact hl _ (li_mem h)
    · have : li l k.toNat = 0 := by unfold li; simp [List.getD_eq_getElem?_getD, h]
      omega
  rcases List.mem_or_eq_of_mem_set hx with hx | rfl
  · have := hl x hx; omega
  · omega
theorem loadsG_rng {c : CaseD} (hs : ∀ x, x ∈ c.sizes → 0 ≤ x ∧ x ≤ 1024) (ps : List (Int × Int)) : ∀ i : Nat, ∀ x, x ∈ loadsG c ps i → 0 ≤ x ∧ x ≤ 2048 * i
  | 0, x, hx => by
    have := (List.mem_replicate.1 hx).2; omega
  | i + 1, x, hx => by
    have hz : 0 ≤ li c.sizes i ∧ li c.sizes i ≤ 1024 := by
      by_cases h : i < c.sizes.length
      · exact hs _ (li_mem h)
      · have : li c.sizes i = 0 := by unfold li; simp [List.getD_eq_getElem?_getD, h]
        omega
    exact addAt_rng (addAt_rng (loadsG_rng hs ps i) (M := 2048 * i + 1024) (by omega) (by omega)) (by omega) (by omega) x hx
def greatest (l : List Int) : Int := l.foldl max 0
def rowPr (c : CaseD) (i : Int) (a : Nat) : Nat → List (Int × Int)
  | 0 => []
  | k + 1 => rowPr c i a k ++ if a < k ∧ openB c i a = true ∧ openB c i k = true then [((a : Int), (k : Int))] else []
def allPr (c : CaseD) (i : Int) (n : Nat) : Nat → List (Int × Int)
  | 0 => []
  | a + 1 => allPr c i n a ++ rowPr c i a n
def pairsOf (c : CaseD) (i : Int) : List (Int × Int) := allPr c i c.people.toNat c.people.toNat
theorem rowPr_low (c : CaseD) (i : Int) (a : Nat) : ∀ k, k ≤ a + 1 → rowPr c i a k = []
  | 0, _ => rfl
  | k + 1, h => by rw [rowPr, rowPr_low c i a k (by omega), if_neg (fun g => by omega)]; rfl
theorem rowPr_mem {c : CaseD} {i : Int} {a : Nat} : ∀ {k : Nat} {p : Int × Int}, p ∈ rowPr c i a k → p.1 = a ∧ (a : Int) < p.2 ∧ p.2 < k ∧ openB c i p.1 = true ∧ openB c i p.2 = true
  | 0, p, h => by cases h
  | k + 1, p, h => by
    rw [rowPr] at h
    rcases List.mem_append.1 h with h | h
    · obtain ⟨h1, h2, h3, h4, h5⟩ := rowPr_mem h
      exact ⟨h1, h2, by omega, h4, h5⟩
    · split at h
      · rename_i g
        rw [List.mem_singleton.1 h]
        exact ⟨rfl, by simp only; omega, by simp only; omega, g.2.1, g.2.2⟩
      · cases h
theorem allPr_mem {c : CaseD} {i : Int} {n : Nat} : ∀ {a : Nat} {p : Int × Int}, p ∈ allPr c i n a → 0 ≤ p.1 ∧ p.1 < p.2 ∧ p.2 < n ∧ openB c i p.1 = true ∧ openB c i p.2 = true
  | 0, p, h => by cases h
  | a + 1, p, h => by
    rw [allPr] at h
    rcases List.mem_append.1 h with h | h
    · exact allPr_mem h
    · obtain ⟨h1, h2, h3, h4, h5⟩ := rowPr_mem h
      exact ⟨by omega, by omega, h3, h4, h5⟩
abbrev Srch := List (Int × Int) × Int × Bool
def srchStep (f : List Int → Int → Srch) (c : CaseD) (i : Nat) (loads : List Int) (s : Srch) (p : Int × Int) : Srch :=
  if s.2.1 ≤ greatest (loadStep c loads i p) then s
  else if (f (loadStep c loads i p) s.2.1).2.2 then (p :: (f (loadStep c loads i p) s.2.1).1, (f (loadStep c loads i p) s.2.1).2.1, true) else s
def searchF (c : CaseD) : Nat → List Int → Int → Srch
  | 0, loads, limit => ([], greatest loads, decide (greatest loads < limit))
  | k + 1, loads, limit => (pairsOf c (c.sizes.length - (k + 1) : Nat)).foldl (srchStep (searchF c k) c (c.sizes.length - (k + 1)) loads) ([], limit, false)
def pickS (c : CaseD) (done : List Bool) : Nat → Int
  | 0 => -1
  | i + 1 => if done.getD i false = false ∧ (pickS c done i < 0 ∨ li c.sizes (pickS c done i).toNat < li c.sizes i) then (i : Int) else pickS c done i
def leastS (c : CaseD) (i : Int) (loads : List Int) (but : Int) : Nat → Int
  | 0 => -1
  | p + 1 => if (p : Int) ≠ but ∧ openB c i p = true ∧ (leastS c i loads but p < 0 ∨ li loads p < li loads (leastS c i loads but p).toNat) then (p : Int) else leastS c i loads but p
def leastC (c : CaseD) (i : Int) (loads : List Int) (but : Int) : Int := max (leastS c i loads but c.people.toNat) 0
theorem pickS_rng (c : CaseD) (done : List Bool) : ∀ n : Nat, -1 ≤ pickS c done n ∧ pickS c done n < n
  | 0 => ⟨Int.le_refl _, (by decide : (-1 : Int) < 0)⟩
  | n + 1 => by
    have := pickS_rng c done n
    rw [pickS]; split <;> omega
theorem pickS_free (c : CaseD) (done : List Bool) : ∀ n : Nat, (0 ≤ pickS c done n → done.getD (pickS c done n).toNat false = false) ∧ ((∃ i, i < n ∧ done.getD i false = false) → 0 ≤ pickS c done n)
  | 0 => ⟨fun h => absurd h (by decide : ¬ (0 : Int) ≤ -1), fun ⟨i, h, _⟩ => absurd h (Nat.not_lt_zero _)⟩
  | n + 1 => by
    obtain ⟨h1, h2⟩ := pickS_free c done n
    rw [pickS]
    split
    · rename_i g
      exact ⟨fun _ => by rw [Int.toNat_natCast]; exact g.1, fun _ => by omega⟩
    · rename_i g
      refine ⟨h1, fun ⟨i, hi, hd⟩ => ?_⟩
      rcases Nat.lt_succ_iff_lt_or_eq.1 hi with hi | rfl
      · exact h2 ⟨i, hi, hd⟩
      · exact Int.not_lt.1 fun hn => g ⟨hd, .inl hn⟩
def needS (c : CaseD) (i : Int) (people : List Int) : Int := max (2 - (((List.range c.people.toNat).filter fun (p : Nat) => !people.contains (p : Int) && openB c i p).length : Int)) 0
def sumS (c : CaseD) (some people : List Int) : Int := some.foldl (fun n i => n + li c.sizes i.toNat * needS c i people) 0
def countedS (c : CaseD) (some people : List Int) : Int := (sumS c some people + people.length - 1).tdiv people.length
structure CertD where
  some : List Int
  people : List Int
  least : Int
def encCert (x : CertD) : PV := .agg [ints x.some, ints x.people, encI x.least]
def incS (n : Int) : List Int → Bool
  | [] => true
  | [x] => decide (0 ≤ x) && decide (x < n)
  | x :: y :: l => decide (0 ≤ x) && decide (x < n) && decide (x < y) && incS n (y :: l)
set_option maxRecDepth 20000
def maskN (f : Nat → Bool) : Nat → Nat
  | 0 => 0
  | p + 1 => maskN f p + if f p then 2 ^ p else 0
theorem maskN_congr {f g : Nat → Bool} : ∀ n, (∀ q, q < n → f q = g q) → maskN f n = maskN g n
  | 0, _ => rfl
  | n + 1, h => by rw [maskN, maskN, h n (Nat.lt_succ_self n), maskN_congr n fun q hq => h q (Nat.lt_succ_of_lt hq)]
theorem maskN_lt (f : Nat → Bool) : ∀ n, maskN f n < 2 ^ n
  | 0 => Nat.zero_lt_one
  | n + 1 => by
    have := maskN_lt f n
    rw [maskN, Nat.pow_succ]; split <;> omega
def fnB (a b c d e f : Bool) : Nat → Bool := fun q => [a, b, c, d, e, f].getD q false
theorem fnB_of (f : Nat → Bool) {q : Nat} (h : q < 6) : f q = fnB (f 0) (f 1) (f 2) (f 3) (f 4) (f 5) q := by
  match q, h with
  | 0, _ => rfl
  | 1, _ => rfl
  | 2, _ => rfl
  | 3, _ => rfl
  | 4, _ => rfl
  | 5, _ => rfl
theorem mask_six (f : Nat → Bool) {n : Nat} (h : n ≤ 6) : maskN f n = maskN (fnB (f 0) (f 1) (f 2) (f 3) (f 4) (f 5)) n := maskN_congr n fun q hq => fnB_of f (by omega)
theorem mask_clear (f : Nat → Bool) {n p : Nat} (h : n ≤ 6) (hp : p < 6) : bits .andNot .u64 (maskN f n : Int) ((2 ^ p : Nat) : Int) = (maskN (fun q => f q && decide (q ≠ p)) n : Int) := by
  have hall : ∀ (a b c d e g : Bool) (n : Fin 7) (p : Fin 6), bits .andNot .u64 (maskN (fnB a b c d e g) n.1 : Int) ((2 ^ p.1 : Nat) : Int) = (maskN (fun q => fnB a b c d e g q && decide (q ≠ p.1)) n.1 : Int) := by decide +kernel
  have := hall (f 0) (f 1) (f 2) (f 3) (f 4) (f 5) ⟨n, by omega⟩ ⟨p, hp⟩
  rw [mask_six f h, this]
  congr 1
  exact maskN_congr n fun q hq => by rw [← fnB_of f (by omega)]
theorem mask_bit (f : Nat → Bool) {n p : Nat} (h : n ≤ 6) (hp : p < n) : bits .and .u64 ((maskN f n : Int).fdiv (2 ^ min p 64)) 1 = if f p then 1 else 0 := by
  have hall : ∀ (a b c d e g : Bool) (n : Fin 7) (p : Fin 6), p.1 < n.1 → bits .and .u64 ((maskN (fnB a b c d e g) n.1 : Int).fdiv (2 ^ min p.1 64)) 1 = if fnB a b c d e g p.1 then 1 else 0 := by decide +kernel
  have := hall (f 0) (f 1) (f 2) (f 3) (f 4) (f 5) ⟨n, by omega⟩ ⟨p, by omega⟩ hp
  rw [mask_six f h, this, ← fnB_of f (by omega)]
theorem mask_all {n : Nat} (h : n ≤ 6) : maskN (fun _ => true) n = 2 ^ n - 1 := by
  have hall : ∀ n : Fin 7, maskN (fun _ => true) n.1 = 2 ^ n.1 - 1 := by decide
  exact hall ⟨n, by omega⟩
def popc (a : Nat) : Nat := ((List.range 6).filter fun p => a.testBit p).length
theorem mask_popc (f : Nat → Bool) {n : Nat} (h : n ≤ 6) : popc (maskN f n) = ((List.range n).filter f).length := by
  have hall : ∀ (a b c d e g : Bool) (n : Fin 7), popc (maskN (fnB a b c d e g) n.1) = ((List.range n.1).filter (fnB a b c d e g)).length := by decide +kernel
  have := hall (f 0) (f 1) (f 2) (f 3) (f 4) (f 5) ⟨n, by omega⟩
  rw [mask_six f h, this]
  congr 1
  exact List.filter_congr fun q hq => by rw [← fnB_of f (by have := List.mem_range.1 hq; omega)]
set_option maxHeartbeats 1000000
theorem leqB3 {p : Prop} (h : p := by (refine ⟨4, ?_, ?_, rfl, by simp, rfl, fun _ h _ => absurd h (Nat.not_lt_zero _)⟩ <;> (simp only [List.forall_mem_cons]; repeat' (first | refine And.intro ?_ ?_ | (intro p hp; exact absurd hp List.not_mem_nil) | rfl | exact sp (pure_case _) | exact (sealed_pure _ _ _ (pure_ints _)).trans (ren_ints _ _).symm | exact (sealed_pure _ _ _ (pure_strs _)).trans (ren_strs _ _).symm | exact sp (by assumption) | (intro o ho; cases ho; refine ⟨by decide, ?_⟩; first | (refine LeqS.row rfl ?_ ?_; (next => (first | rfl | (simp only [List.map_append, List.map_cons, List.map_nil, List.append_nil, List.nil_append, List.append_assoc, List.cons_append, encI, encS, ints, strs]; done) | (simp [encI, encS, ints, strs, encP]; done))); (next => (first | rfl | exact pureL_encI _ | exact pureL_encS _ | exact pureL_ints _ | exact pureL_strs _ | exact pureL_encP _ | (simp [pureL_append, pureL_encI, pureL_encS, pureL_ints, pureL_strs, pureL, PV.pure, pure_ints, pure_strs, pure_case, pureL_encP]; done))); done) | refine ⟨_, rfl, rfl, ?_⟩) | (simp [St.born, St.known, retV, St.get, St.obj, lk, sealed, PV.ren, renL, rmap, AO.ren, ints, strs, encI, encS, map_sealed_encI, map_sealed_encS, map_sealed_ints, map_sealed_strs, map_ren_encI, map_ren_encS, map_ren_ints, map_ren_strs, renL_encI, renL_encS, renL_ints, renL_strs, ren_case, encC, pairs, renL_encP, map_sealed_encP, map_ren_encP, encP, take_map_len] <;> omega)))); first | done | fail) : p := h
theorem lsrB3 {p : Prop} (h : p := by (first | rfl | (simp [St.born, St.known, retV, St.get, St.obj, lk, sealed, PV.ren, renL, rmap, AO.ren, ints, strs, encI, encS, map_sealed_encI, map_sealed_encS, map_sealed_ints, map_sealed_strs, map_ren_encI, map_ren_encS, map_ren_ints, map_ren_strs, renL_encI, renL_encS, renL_ints, renL_strs, ren_case, encC, pairs, renL_encP, map_sealed_encP, map_ren_encP, encP, take_map_len]; done)); first | done | fail) : p := h
theorem lpvB3 {p : Prop} (h : p := by (first | rfl | (simp [pure_ints, pure_strs, PV.pure, pureL, pureL_encI, pureL_encS, pureL_ints, pureL_strs, pure_case, pureL_encP]; done)); first | done | fail) : p := h
theorem openB_no {c : CaseD} {i p : Int} {k : Nat} (hk : k < c.bars.length) (h1 : (lp c.bars k).1 = i) (h2 : (lp c.bars k).2 = p) : openB c i p = false := by
  unfold openB
  rw [any_true (d := (0, 0)) hk (by unfold isBar; show (decide ((lp c.bars k).1 = i) && decide ((lp c.bars k).2 = p)) = true; rw [h1, h2]; simp)]; rfl
theorem openB_yes {c : CaseD} {i p : Int} (h : ∀ k, k < c.bars.length → ¬ ((lp c.bars k).1 = i ∧ (lp c.bars k).2 = p)) : openB c i p = true := by
  unfold openB
  rw [any_false (d := (0, 0)) fun j hj => ?_]; rfl
  have := h j hj
  rw [Bool.eq_false_iff]
  intro hh
  unfold isBar at hh
  rw [Bool.and_eq_true, decide_eq_true_eq, decide_eq_true_eq] at hh
  exact this hh
theorem Open_pure (c : CaseD) (i p : Int) (hc : Held c) : Pure Try.prog 49 [encC c, encI i, encI p] (.atom (.bool (openB c i p))) [] := by
  have hbl := hc.bars
  refine Pure.intro (ts := [6]) Try.func49 (by kernel_rfl) rfl rfl rfl (Nat.le_of_ble_eq_true rfl) ?_ ?_
  · simp [pure_case, encI, PV.pure, pureL]
  refine sZ [1, 2, 3] (fun P S K => XvBox S.nx (S.get 0) (fun r0 ef0 => K ⟨[(1, S.get 1), (2, S.get 2), (3, r0)], (Eff.hp ef0 S.nx S.hp), (S.nx + ef0.add.length), S.gh⟩)) fun K hK => ?_
  repeat' (first | (refine hK _ ?_; clear hK K) | refine And.intro ?_ ?_ | exact cl | (refine st ?_; try simp only [encC, pairs, encP]))
  all_goals
  refine Tri.seq ?_
  refine sY [1, 2, 3, 7] (fun P S K => K ⟨[(1, S.get 1), (2, S.get 2), (3, S.get 3), (7, (.atom (.int .i64 0)))], S.hp, S.nx, S.gh⟩) ?_
  all_goals
  refine Tri.block ?_
  refine Tri.loop (α := (k : Nat) ×' (k ≤ c.bars.length ∧ ∀ j, j < k → ¬ ((lp c.bars j).1 = i ∧ (lp c.bars j).2 = p))) (fun z => (fun (k : Nat) => (⟨[(1, encI i), (2, encI p), (3, .ptr 0 3 0 0), (7, encI k)], [(0, some ⟨3, [encC c]⟩)], 1, []⟩ : St)) z.1) (fun z => (fun (k : Nat) => c.bars.length - k) z.1) ⟨0, ⟨Nat.zero_le _, fun j hj => absurd hj (Nat.not_lt_zero _)⟩⟩ [0] ?_ ?_
  ·exact leqB3
  ·rintro ⟨k, ⟨hk, hno⟩⟩
   refine Tri.seq ?_
   refine sZ [1, 2, 3, 7, 12] (fun P S K => XvFieldAddr P 25 2 (S.get 3) (fun r1 _ => XvLoad P 23 (M S.hp S.nx) r1 (fun r2 _ => XvLen P 23 r2 (fun r3 _ => XvBinOV P .lss 3 (.tmp 11) (S.get 7) r3 (fun r4 _ => K ⟨[(1, S.get 1), (2, S.get 2), (3, S.get 3), (7, S.get 7), (12, r4)], S.hp, S.nx, S.gh⟩))))) fun K hK => ?_
   repeat' (first | (refine hK _ ?_; clear hK K) | refine And.intro ?_ ?_ | exact cl | (refine st ?_; try simp only [encC, pairs, encP]))
   all_goals
   refine Tri.cond rfl (fun h12 => ?_) (fun h12 => ?_)
   ·try (cases h12; done)
    all_goals (try simp only [CQ] at h12)
    all_goals
    refine Tri.skip ?_
    refine Tri.seq ?_
    refine Tri.block ?_
    have hkl : k < c.bars.length := by omega
    refine sZ [1, 2, 3, 7, 32] (fun P S K => XvFieldAddr P 25 2 (S.get 3) (fun r0 _ => XvLoad P 23 (M S.hp S.nx) r0 (fun r1 _ => XvIndexAddr P 23 r1 (S.get 7) (fun r3 _ => XvIndexAddr P 67 r3 (.atom (.int .i64 0)) (fun r4 _ => XvLoad P 3 (M S.hp S.nx) r4 (fun r5 _ => XvBinOV P .eql 3 (.tmp 21) r5 (S.get 1) (fun r7 _ => Xgq r7 true (fun k => XvFieldAddr P 25 2 (S.get 3) (fun r9 _ => k r9)) (fun g9 r9 => Xgq g9 true (fun k => XvLoad P 23 (M S.hp S.nx) r9 (fun r10 _ => k r10)) (fun g10 r10 => Xgq g10 true (fun k => k (S.get 7)) (fun g11 r11 => Xgq g11 true (fun k => XvIndexAddr P 23 r10 r11 (fun r12 _ => k r12)) (fun g12 r12 => Xgq g12 true (fun k => XvIndexAddr P 67 r12 (.atom (.int .i64 1)) (fun r13 _ => k r13)) (fun g13 r13 => Xgq g13 true (fun k => XvLoad P 3 (M S.hp S.nx) r13 (fun r14 _ => k r14)) (fun g14 r14 => Xgq g14 true (fun k => k (S.get 2)) (fun g15 r15 => Xgq g15 true (fun k => XvBinOV P .eql 3 (.tmp 30) r14 r15 (fun r16 _ => k r16)) (fun g16 r16 => XvPick g16 r16 (.atom (.bool false)) (fun r17 _ => K ⟨[(1, S.get 1), (2, S.get 2), (3, S.get 3), (7, S.get 7), (32, r17)], S.hp, S.nx, S.gh⟩)))))))))))))))) fun K hK => ?_
    repeat' (first | (refine hK _ ?_; clear hK K) | ((first | refine xG_intro (fun hg => ?_) (fun hg => ?_) | refine fun (hg : (_ : Prop)) => ?_) <;> ((try simp only [BQ] at hg); try (exfalso; omega))) | refine And.intro ?_ ?_ | exact cl | refine one_take ?_ _ | refine one_drop ?_ _ | (refine st ?_; try simp only [encC, pairs, encP, getD_encP hkl]))
    all_goals
    refine Tri.cond rfl (fun h32 => ?_) (fun h32 => ?_)
    ·try (cases h32; done)
     all_goals (try simp only [CQ] at h32)
     all_goals
     refine sY [6] (fun P S K => K ⟨[(6, (.atom (.bool false)))], S.hp, S.nx, S.gh⟩) ?_
     all_goals
     refine Tri.ret ?_
     show ResOk _ _ _ _
     rw [openB_no hkl (by omega) (by omega)]
     exact ResOk.val lsrB3 lpvB3
    ·try (cases h32; done)
     all_goals (try simp only [CQ] at h32)
     all_goals
     refine Tri.skip ?_
     refine rY [1, 2, 3, 7] (fun P S K => XvBinOV P .add 3 (.const (.int .i64 1)) (S.get 7) (.atom (.int .i64 1)) (fun r1 _ => K ⟨[(1, S.get 1), (2, S.get 2), (3, S.get 3), (7, r1)], S.hp, S.nx, S.gh⟩)) ?_
     all_goals try simp (disch := omega) only [wrap_id, wrap8_id]
     all_goals
     refine ⟨⟨k + 1, by omega, fun j hj => ?_⟩, [0], by dsimp only; omega, ?_⟩
     · rcases Nat.lt_succ_iff_lt_or_eq.1 hj with hj | rfl
       · exact hno j hj
       · omega
     · exact leqB3
   ·try (cases h12; done)
    all_goals (try simp only [CQ] at h12)
    all_goals
    refine Tri.exit ?_
    refine sY [6] (fun P S K => K ⟨[(6, (.atom (.bool true)))], S.hp, S.nx, S.gh⟩) ?_
    all_goals
    refine Tri.ret ?_
    show ResOk _ _ _ _
    rw [openB_yes (fun j hj => hno j (by omega))]
    exact ResOk.val lsrB3 lpvB3
theorem valid_many {c : CaseD} (h : 64 < c.sizes.length) : validC c = 4 := if_pos h
theorem valid_people {c : CaseD} (h : ¬ 64 < c.sizes.length) (h2 : c.people < 2 ∨ 6 < c.people) : validC c = 1 := by
  unfold validC; rw [if_neg h, if_pos h2]
theorem valid_size {c : CaseD} (h : ¬ 64 < c.sizes.length) (h2 : ¬ (c.people < 2 ∨ 6 < c.people)) {i : Nat} (hi : i < c.sizes.length) (h3 : li c.sizes i < 1 ∨ 1024 < li c.sizes i) : validC c = 1 := by
  unfold validC
  rw [if_neg h, if_neg h2, if_pos (any_true (d := 0) hi (by show badS (li c.sizes i) = true; unfold badS; simpa using h3))]
theorem badS_no {x : Int} (h : ¬ (x < 1 ∨ 1024 < x)) : badS x = false := by
  unfold badS; simp; omega
theorem valid_bar {c : CaseD} (h : ¬ 64 < c.sizes.length) (h2 : ¬ (c.people < 2 ∨ 6 < c.people)) (h3 : c.sizes.any badS = false) {k : Nat} (hk : k < c.bars.length) (h4 : badB c (lp c.bars k) = true) : validC c = 1 := by
  unfold validC
  rw [if_neg h, if_neg h2, if_neg (by rw [h3]; decide), if_pos (any_true (d := (0, 0)) hk h4)]
theorem badB_yes {c : CaseD} {b : Int × Int} (h : b.1 < 0 ∨ (c.sizes.length : Int) ≤ b.1 ∨ b.2 < 0 ∨ c.people ≤ b.2) : badB c b = true := by
  unfold badB; simp; omega
theorem badB_no {c : CaseD} {b : Int × Int} (h : ¬ (b.1 < 0 ∨ (c.sizes.length : Int) ≤ b.1 ∨ b.2 < 0 ∨ c.people ≤ b.2)) : badB c b = false := by
  unfold badB; simp; omega
theorem valid_scant {c : CaseD} (h : ¬ 64 < c.sizes.length) (h2 : ¬ (c.people < 2 ∨ 6 < c.people)) (h3 : c.sizes.any badS = false) (h4 : c.bars.any (badB c) = false) {i : Nat} (hi : i < c.sizes.length) (h5 : openN c i c.people.toNat < 2) : validC c = 6 := by
  unfold validC
  rw [if_neg h, if_neg h2, if_neg (by rw [h3]; decide), if_neg (by rw [h4]; decide), if_pos (rangeAny_true hi (decide_eq_true h5))]
theorem valid_ok {c : CaseD} (h : ¬ 64 < c.sizes.length) (h2 : ¬ (c.people < 2 ∨ 6 < c.people)) (h3 : c.sizes.any badS = false) (h4 : c.bars.any (badB c) = false) (h5 : ∀ i, i < c.sizes.length → ¬ openN c i c.people.toNat < 2) : validC c = 0 := by
  unfold validC
  rw [if_neg h, if_neg h2, if_neg (by rw [h3]; decide), if_neg (by rw [h4]; decide), if_neg (by rw [rangeAny_false (p := scant c) fun j hj => decide_eq_false (h5 j hj)]; decide)]
theorem rValid_pure (c : CaseD) (hc : Held c) : Pure Try.prog 17 [encC c] (encI (validC c)) [] := by
  have hbl := hc.bars
  have hsl := hc.sizes
  refine Pure.intro (ts := [2]) Try.func17 (by kernel_rfl) rfl rfl rfl (Nat.le_of_ble_eq_true rfl) ?_ ?_
  · simp [pure_case, encI, PV.pure, pureL]
  refine sZ [1] (fun P S K => XvBox S.nx (S.get 0) (fun r0 ef0 => K ⟨[(1, r0)], (Eff.hp ef0 S.nx S.hp), (S.nx + ef0.add.length), S.gh⟩)) fun K hK => ?_
  repeat' (first | (refine hK _ ?_; clear hK K) | refine And.intro ?_ ?_ | exact cl | (refine st ?_; try simp only [encC, pairs, encP]))
  all_goals
  refine Tri.seq ?_
  refine sZ [1, 12] (fun P S K => XvFieldAddr P 25 0 (S.get 1) (fun r0 _ => XvLoad P 22 (M S.hp S.nx) r0 (fun r1 _ => XvLen P 22 r1 (fun r2 _ => XvBinOV P .gtr 3 (.const (.int .i64 64)) r2 (.atom (.int .i64 64)) (fun r3 _ => K ⟨[(1, S.get 1), (12, r3)], S.hp, S.nx, S.gh⟩))))) fun K hK => ?_
  repeat' (first | (refine hK _ ?_; clear hK K) | refine And.intro ?_ ?_ | exact cl | (refine st ?_; try simp only [encC, pairs, encP]))
  all_goals
  refine Tri.cond rfl (fun h12 => ?_) (fun h12 => ?_)
  ·try (cases h12; done)
   all_goals (try simp only [CQ] at h12)
   all_goals
   refine sY [2] (fun P S K => K ⟨[(2, (.atom (.int .i64 4)))], S.hp, S.nx, S.gh⟩) ?_
   all_goals
   refine Tri.ret ?_
   show ResOk _ _ _ _
   rw [valid_many (by omega)]
   exact ResOk.val lsrB3 lpvB3
  ·try (cases h12; done)
   all_goals (try simp only [CQ] at h12)
   all_goals
   refine Tri.skip ?_
   refine Tri.seq ?_
   refine sZ [1, 20] (fun P S K => XvFieldAddr P 25 1 (S.get 1) (fun r0 _ => XvLoad P 3 (M S.hp S.nx) r0 (fun r1 _ => XvBinOV P .lss 3 (.const (.int .i64 2)) r1 (.atom (.int .i64 2)) (fun r2 _ => Xgq r2 false (fun k => XvFieldAddr P 25 1 (S.get 1) (fun r4 _ => k r4)) (fun g4 r4 => Xgq g4 false (fun k => XvLoad P 3 (M S.hp S.nx) r4 (fun r5 _ => k r5)) (fun g5 r5 => Xgq g5 false (fun k => XvBinOV P .gtr 3 (.const (.int .i64 6)) r5 (.atom (.int .i64 6)) (fun r6 _ => k r6)) (fun g6 r6 => XvPick g6 (.atom (.bool true)) r6 (fun r7 _ => K ⟨[(1, S.get 1), (20, r7)], S.hp, S.nx, S.gh⟩)))))))) fun K hK => ?_
   repeat' (first | (refine hK _ ?_; clear hK K) | ((first | refine xG_intro (fun hg => ?_) (fun hg => ?_) | refine fun (hg : (_ : Prop)) => ?_) <;> ((try simp only [BQ] at hg); try (exfalso; omega))) | refine And.intro ?_ ?_ | exact cl | refine one_take ?_ _ | refine one_drop ?_ _ | (refine st ?_; try simp only [encC, pairs, encP]))
   all_goals
   refine Tri.cond rfl (fun h20 => ?_) (fun h20 => ?_)
   ·try (cases h20; done)
    all_goals (try simp only [CQ] at h20)
    all_goals
    refine sY [2] (fun P S K => K ⟨[(2, (.atom (.int .i64 1)))], S.hp, S.nx, S.gh⟩) ?_
    all_goals
    refine Tri.ret ?_
    show ResOk _ _ _ _
    rw [valid_people (by omega) (by omega)]
    exact ResOk.val lsrB3 lpvB3
   ·try (cases h20; done)
    all_goals (try simp only [CQ] at h20)
    all_goals
    refine Tri.skip ?_
    refine Tri.seq ?_
    refine sY [1, 3] (fun P S K => K ⟨[(1, S.get 1), (3, (.atom (.int .i64 0)))], S.hp, S.nx, S.gh⟩) ?_
    all_goals
    refine Tri.block ?_
    refine Tri.loop (α := (i : Nat) ×' (i ≤ c.sizes.length ∧ ∀ j, j < i → badS (li c.sizes j) = false)) (fun z => (fun (i : Nat) => (⟨[(1, .ptr 0 3 0 0), (3, encI i)], [(0, some ⟨3, [encC c]⟩)], 1, []⟩ : St)) z.1) (fun z => (fun (i : Nat) => c.sizes.length - i) z.1) ⟨0, ⟨Nat.zero_le _, fun j hj => absurd hj (Nat.not_lt_zero _)⟩⟩ [0] ?_ ?_
    ·exact leqB3
    ·rintro ⟨i, ⟨hi, hno⟩⟩
     refine Tri.seq ?_
     refine sZ [1, 3, 25] (fun P S K => XvFieldAddr P 25 0 (S.get 1) (fun r1 _ => XvLoad P 22 (M S.hp S.nx) r1 (fun r2 _ => XvLen P 22 r2 (fun r3 _ => XvBinOV P .lss 3 (.tmp 24) (S.get 3) r3 (fun r4 _ => K ⟨[(1, S.get 1), (3, S.get 3), (25, r4)], S.hp, S.nx, S.gh⟩))))) fun K hK => ?_
     repeat' (first | (refine hK _ ?_; clear hK K) | refine And.intro ?_ ?_ | exact cl | (refine st ?_; try simp only [encC, pairs, encP]))
     all_goals
     refine Tri.cond rfl (fun h25 => ?_) (fun h25 => ?_)
     ·try (cases h25; done)
      all_goals (try simp only [CQ] at h25)
      all_goals
      refine Tri.skip ?_
      refine Tri.seq ?_
      refine Tri.block ?_
      have hil : i < c.sizes.length := by omega
      refine sZ [1, 3, 41] (fun P S K => XvFieldAddr P 25 0 (S.get 1) (fun r0 _ => XvLoad P 22 (M S.hp S.nx) r0 (fun r1 _ => XvIndexAddr P 22 r1 (S.get 3) (fun r3 _ => XvLoad P 3 (M S.hp S.nx) r3 (fun r4 _ => XvBinOV P .lss 3 (.const (.int .i64 1)) r4 (.atom (.int .i64 1)) (fun r5 _ => Xgq r5 false (fun k => XvFieldAddr P 25 0 (S.get 1) (fun r7 _ => k r7)) (fun g7 r7 => Xgq g7 false (fun k => XvLoad P 22 (M S.hp S.nx) r7 (fun r8 _ => k r8)) (fun g8 r8 => Xgq g8 false (fun k => k (S.get 3)) (fun g9 r9 => Xgq g9 false (fun k => XvIndexAddr P 22 r8 r9 (fun r10 _ => k r10)) (fun g10 r10 => Xgq g10 false (fun k => XvLoad P 3 (M S.hp S.nx) r10 (fun r11 _ => k r11)) (fun g11 r11 => Xgq g11 false (fun k => XvBinOV P .gtr 3 (.const (.int .i64 1024)) r11 (.atom (.int .i64 1024)) (fun r12 _ => k r12)) (fun g12 r12 => XvPick g12 (.atom (.bool true)) r12 (fun r13 _ => K ⟨[(1, S.get 1), (3, S.get 3), (41, r13)], S.hp, S.nx, S.gh⟩))))))))))))) fun K hK => ?_
      repeat' (first | (refine hK _ ?_; clear hK K) | ((first | refine xG_intro (fun hg => ?_) (fun hg => ?_) | refine fun (hg : (_ : Prop)) => ?_) <;> ((try simp only [BQ] at hg); try (exfalso; omega))) | refine And.intro ?_ ?_ | exact cl | refine one_take ?_ _ | refine one_drop ?_ _ | (refine st ?_; try simp only [encC, pairs, encP, getD_encI hil]))
      all_goals
      refine Tri.cond rfl (fun h41 => ?_) (fun h41 => ?_)
      ·try (cases h41; done)
       all_goals (try simp only [CQ] at h41)
       all_goals
       refine sY [2] (fun P S K => K ⟨[(2, (.atom (.int .i64 1)))], S.hp, S.nx, S.gh⟩) ?_
       all_goals
       refine Tri.ret ?_
       show ResOk _ _ _ _
       rw [valid_size (by omega) (by omega) hil (by omega)]
       exact ResOk.val lsrB3 lpvB3
      ·try (cases h41; done)
       all_goals (try simp only [CQ] at h41)
       all_goals
       refine Tri.skip ?_
       refine rY [1, 3] (fun P S K => XvBinOV P .add 3 (.const (.int .i64 1)) (S.get 3) (.atom (.int .i64 1)) (fun r1 _ => K ⟨[(1, S.get 1), (3, r1)], S.hp, S.nx, S.gh⟩)) ?_
       all_goals try simp (disch := omega) only [wrap_id, wrap8_id]
       all_goals
       refine ⟨⟨i + 1, by omega, fun j hj => ?_⟩, [0], by dsimp only; omega, ?_⟩
       · rcases Nat.lt_succ_iff_lt_or_eq.1 hj with hj | rfl
         · exact hno j hj
         · exact badS_no (by omega)
       · exact leqB3
     ·try (cases h25; done)
      all_goals (try simp only [CQ] at h25)
      all_goals
      refine Tri.exit ?_
      refine Tri.seq ?_
      have hS : c.sizes.any badS = false := any_false (d := 0) fun j hj => hno j (by omega)
      refine sY [1, 4] (fun P S K => K ⟨[(1, S.get 1), (4, (.atom (.int .i64 0)))], S.hp, S.nx, S.gh⟩) ?_
      all_goals
      refine Tri.block ?_
      refine Tri.loop (α := (k : Nat) ×' (k ≤ c.bars.length ∧ ∀ j, j < k → badB c (lp c.bars j) = false)) (fun z => (fun (k : Nat) => (⟨[(1, .ptr 0 3 0 0), (4, encI k)], [(0, some ⟨3, [encC c]⟩)], 1, []⟩ : St)) z.1) (fun z => (fun (k : Nat) => c.bars.length - k) z.1) ⟨0, ⟨Nat.zero_le _, fun j hj => absurd hj (Nat.not_lt_zero _)⟩⟩ [0] ?_ ?_
      ·exact leqB3
      ·rintro ⟨k, ⟨hk, hnb⟩⟩
       refine Tri.seq ?_
       refine sZ [1, 4, 46] (fun P S K => XvFieldAddr P 25 2 (S.get 1) (fun r1 _ => XvLoad P 23 (M S.hp S.nx) r1 (fun r2 _ => XvLen P 23 r2 (fun r3 _ => XvBinOV P .lss 3 (.tmp 45) (S.get 4) r3 (fun r4 _ => K ⟨[(1, S.get 1), (4, S.get 4), (46, r4)], S.hp, S.nx, S.gh⟩))))) fun K hK => ?_
       repeat' (first | (refine hK _ ?_; clear hK K) | refine And.intro ?_ ?_ | exact cl | (refine st ?_; try simp only [encC, pairs, encP]))
       all_goals
       refine Tri.cond rfl (fun h46 => ?_) (fun h46 => ?_)
       ·try (cases h46; done)
        all_goals (try simp only [CQ] at h46)
        all_goals
        refine Tri.skip ?_
        refine Tri.seq ?_
        refine Tri.block ?_
        have hkl : k < c.bars.length := by omega
        refine sZ [1, 4, 5] (fun P S K => XvFieldAddr P 25 2 (S.get 1) (fun r0 _ => XvLoad P 23 (M S.hp S.nx) r0 (fun r1 _ => XvIndexAddr P 23 r1 (S.get 4) (fun r3 _ => XvLoad P 67 (M S.hp S.nx) r3 (fun r4 _ => XvAlloc P 67 S.nx (fun r5 ef5 => XvStore P 67 (M (Eff.hp ef5 S.nx S.hp) (S.nx + ef5.add.length)) r5 r4 (fun r6 ef6 => K ⟨[(1, S.get 1), (4, S.get 4), (5, r5)], (Eff.hp ef6 (S.nx + ef5.add.length) (Eff.hp ef5 S.nx S.hp)), ((S.nx + ef5.add.length) + ef6.add.length), S.gh⟩))))))) fun K hK => ?_
        repeat' (first | (refine hK _ ?_; clear hK K) | refine And.intro ?_ ?_ | exact cl | (refine st ?_; try simp only [encC, pairs, encP, getD_encP hkl]))
        all_goals
        refine sZ [1, 4, 76] (fun P S K => XvIndexAddr P 67 (S.get 5) (.atom (.int .i64 0)) (fun r0 _ => XvLoad P 3 (M S.hp S.nx) r0 (fun r1 _ => XvBinOV P .lss 3 (.const (.int .i64 0)) r1 (.atom (.int .i64 0)) (fun r2 _ => Xgq r2 false (fun k => XvIndexAddr P 67 (S.get 5) (.atom (.int .i64 0)) (fun r4 _ => k r4)) (fun g4 r4 => Xgq g4 false (fun k => XvLoad P 3 (M S.hp S.nx) r4 (fun r5 _ => k r5)) (fun g5 r5 => Xgq g5 false (fun k => XvFieldAddr P 25 0 (S.get 1) (fun r6 _ => k r6)) (fun g6 r6 => Xgq g6 false (fun k => XvLoad P 22 (M S.hp S.nx) r6 (fun r7 _ => k r7)) (fun g7 r7 => Xgq g7 false (fun k => XvLen P 22 r7 (fun r8 _ => k r8)) (fun g8 r8 => Xgq g8 false (fun k => XvBinOV P .geq 3 (.tmp 62) r5 r8 (fun r9 _ => k r9)) (fun g9 r9 => XvPick g9 (.atom (.bool true)) r9 (fun r10 _ => Xgq r10 false (fun k => XvIndexAddr P 67 (S.get 5) (.atom (.int .i64 1)) (fun r12 _ => k r12)) (fun g12 r12 => Xgq g12 false (fun k => XvLoad P 3 (M S.hp S.nx) r12 (fun r13 _ => k r13)) (fun g13 r13 => Xgq g13 false (fun k => XvBinOV P .lss 3 (.const (.int .i64 0)) r13 (.atom (.int .i64 0)) (fun r14 _ => k r14)) (fun g14 r14 => XvPick g14 (.atom (.bool true)) r14 (fun r15 _ => Xgq r15 false (fun k => XvIndexAddr P 67 (S.get 5) (.atom (.int .i64 1)) (fun r17 _ => k r17)) (fun g17 r17 => Xgq g17 false (fun k => XvLoad P 3 (M S.hp S.nx) r17 (fun r18 _ => k r18)) (fun g18 r18 => Xgq g18 false (fun k => XvFieldAddr P 25 1 (S.get 1) (fun r19 _ => k r19)) (fun g19 r19 => Xgq g19 false (fun k => XvLoad P 3 (M S.hp S.nx) r19 (fun r20 _ => k r20)) (fun g20 r20 => Xgq g20 false (fun k => XvBinOV P .geq 3 (.tmp 74) r18 r20 (fun r21 _ => k r21)) (fun g21 r21 => XvPick g21 (.atom (.bool true)) r21 (fun r22 _ => K ⟨[(1, S.get 1), (4, S.get 4), (76, r22)], S.hp, S.nx, S.gh⟩))))))))))))))))))))) fun K hK => ?_
        repeat' (first | (refine hK _ ?_; clear hK K) | ((first | refine xG_intro (fun hg => ?_) (fun hg => ?_) | refine fun (hg : (_ : Prop)) => ?_) <;> ((try simp only [BQ] at hg); try (exfalso; omega))) | refine And.intro ?_ ?_ | exact cl | refine one_take ?_ _ | refine one_drop ?_ _ | (refine st ?_; try simp only [encC, pairs, encP]))
        all_goals
        refine Tri.cond rfl (fun h76 => ?_) (fun h76 => ?_)
        ·try (cases h76; done)
         all_goals (try simp only [CQ] at h76)
         all_goals
         refine sY [2] (fun P S K => K ⟨[(2, (.atom (.int .i64 1)))], S.hp, S.nx, S.gh⟩) ?_
         all_goals
         refine Tri.ret ?_
         show ResOk _ _ _ _
         rw [valid_bar (by omega) (by omega) hS hkl (badB_yes (by omega))]
         exact ResOk.val lsrB3 lpvB3
        ·try (cases h76; done)
         all_goals (try simp only [CQ] at h76)
         all_goals
         refine Tri.skip ?_
         refine rY [1, 4] (fun P S K => XvBinOV P .add 3 (.const (.int .i64 1)) (S.get 4) (.atom (.int .i64 1)) (fun r1 _ => K ⟨[(1, S.get 1), (4, r1)], S.hp, S.nx, S.gh⟩)) ?_
         all_goals try simp (disch := omega) only [wrap_id, wrap8_id]
         all_goals
         refine ⟨⟨k + 1, by omega, fun j hj => ?_⟩, [0], by dsimp only; omega, ?_⟩
         · rcases Nat.lt_succ_iff_lt_or_eq.1 hj with hj | rfl
           · exact hnb j hj
           · exact badB_no (by omega)
         · exact leqB3
       ·try (cases h46; done)
        all_goals (try simp only [CQ] at h46)
        all_goals
        refine Tri.exit ?_
        refine Tri.seq ?_
        have hB : c.bars.any (badB c) = false := any_false (d := (0, 0)) fun j hj => hnb j (by omega)
        refine sY [1, 6] (fun P S K => K ⟨[(1, S.get 1), (6, (.atom (.int .i64 0)))], S.hp, S.nx, S.gh⟩) ?_
        all_goals
        refine Tri.block ?_
        refine Tri.loop (α := (i : Nat) ×' (i ≤ c.sizes.length ∧ ∀ j, j < i → ¬ openN c j c.people.toNat < 2)) (fun z => (fun (i : Nat) => (⟨[(1, .ptr 0 3 0 0), (6, encI i)], [(0, some ⟨3, [encC c]⟩)], 1, []⟩ : St)) z.1) (fun z => (fun (i : Nat) => c.sizes.length - i) z.1) ⟨0, ⟨Nat.zero_le _, fun j hj => absurd hj (Nat.not_lt_zero _)⟩⟩ [0] ?_ ?_
        ·exact leqB3
        ·rintro ⟨i, ⟨hi, hns⟩⟩
         refine Tri.seq ?_
         refine sZ [1, 6, 81] (fun P S K => XvFieldAddr P 25 0 (S.get 1) (fun r1 _ => XvLoad P 22 (M S.hp S.nx) r1 (fun r2 _ => XvLen P 22 r2 (fun r3 _ => XvBinOV P .lss 3 (.tmp 80) (S.get 6) r3 (fun r4 _ => K ⟨[(1, S.get 1), (6, S.get 6), (81, r4)], S.hp, S.nx, S.gh⟩))))) fun K hK => ?_
         repeat' (first | (refine hK _ ?_; clear hK K) | refine And.intro ?_ ?_ | exact cl | (refine st ?_; try simp only [encC, pairs, encP]))
         all_goals
         refine Tri.cond rfl (fun h81 => ?_) (fun h81 => ?_)
         ·try (cases h81; done)
          all_goals (try simp only [CQ] at h81)
          all_goals
          refine Tri.skip ?_
          refine Tri.seq ?_
          refine Tri.block ?_
          have hil : i < c.sizes.length := by omega
          refine sY [1, 6, 7] (fun P S K => K ⟨[(1, S.get 1), (6, S.get 6), (7, (.atom (.int .i64 0)))], S.hp, S.nx, S.gh⟩) ?_
          all_goals
          refine Tri.seq ?_
          refine sY [1, 6, 7, 8] (fun P S K => K ⟨[(1, S.get 1), (6, S.get 6), (7, S.get 7), (8, (.atom (.int .i64 0)))], S.hp, S.nx, S.gh⟩) ?_
          all_goals
          refine Tri.block ?_
          refine Tri.loop (α := (p : Nat) ×' ((p : Int) ≤ c.people)) (fun z => (fun (p : Nat) => (⟨[(1, .ptr 0 3 0 0), (6, encI i), (7, encI (openN c i p : Nat)), (8, encI p)], [(0, some ⟨3, [encC c]⟩)], 1, []⟩ : St)) z.1) (fun z => (fun (p : Nat) => 6 - p) z.1) ⟨0, by omega⟩ [0] ?_ ?_
          ·exact leqB3
          ·rintro ⟨p, hp⟩
           have hle := openN_le c i p
           have hsucc := openN_succ c i p
           refine Tri.seq ?_
           refine sZ [1, 6, 7, 8, 87] (fun P S K => XvFieldAddr P 25 1 (S.get 1) (fun r1 _ => XvLoad P 3 (M S.hp S.nx) r1 (fun r2 _ => XvBinOV P .lss 3 (.tmp 86) (S.get 8) r2 (fun r3 _ => K ⟨[(1, S.get 1), (6, S.get 6), (7, S.get 7), (8, S.get 8), (87, r3)], S.hp, S.nx, S.gh⟩)))) fun K hK => ?_
           repeat' (first | (refine hK _ ?_; clear hK K) | refine And.intro ?_ ?_ | exact cl | (refine st ?_; try simp only [encC, pairs, encP]))
           all_goals
           refine Tri.cond rfl (fun h87 => ?_) (fun h87 => ?_)
           ·try (cases h87; done)
            all_goals (try simp only [CQ] at h87)
            all_goals
            refine Tri.skip ?_
            refine Tri.seq ?_
            refine Tri.block ?_
            refine sZ [1, 6, 7, 8, 93] (fun P S K => XvLoad P 25 (M S.hp S.nx) (S.get 1) (fun r0 _ => XvFnIV P (M S.hp S.nx) (.fn 49 []) [r0, (S.get 6), (S.get 8)] (fun r3 ef3 => K ⟨[(1, S.get 1), (6, S.get 6), (7, S.get 7), (8, S.get 8), (93, r3)], (Eff.hp ef3 S.nx S.hp), (S.nx + ef3.add.length), S.gh⟩))) fun K hK => ?_
            repeat' (first | (refine hK _ ?_; clear hK K) | refine And.intro ?_ ?_ | exact cl | refine .inl ⟨_, _, Open_pure c i p hc, ?_⟩ | (refine st ?_; try simp only [encC, pairs, encP]))
            all_goals
            refine Tri.cond rfl (fun h93 => ?_) (fun h93 => ?_)
            ·try (cases h93; done)
             all_goals (try simp only [CQ] at h93)
             all_goals
             refine rY [1, 6, 7, 8] (fun P S K => XvBinOV P .add 3 (.const (.int .i64 1)) (S.get 7) (.atom (.int .i64 1)) (fun r1 _ => K ⟨[(1, S.get 1), (6, S.get 6), (7, r1), (8, S.get 8)], S.hp, S.nx, S.gh⟩)) ?_
             all_goals try simp (disch := omega) only [wrap_id, wrap8_id]
             all_goals
             refine rY [1, 6, 7, 8] (fun P S K => XvBinOV P .add 3 (.const (.int .i64 1)) (S.get 8) (.atom (.int .i64 1)) (fun r1 _ => K ⟨[(1, S.get 1), (6, S.get 6), (7, S.get 7), (8, r1)], S.hp, S.nx, S.gh⟩)) ?_
             all_goals try simp (disch := omega) only [wrap_id, wrap8_id]
             all_goals
             first
             | (have e : openN c i (p + 1) = openN c i p + 1 := (by rw [hsucc, if_pos (by assumption)]); refine ⟨⟨p + 1, by omega⟩, [0], by dsimp only; omega, ?_⟩; dsimp only; rw [e]; exact leqB3)
             | (have e : openN c i (p + 1) = openN c i p := (by rw [hsucc, if_neg (by simp_all)]; rfl); refine ⟨⟨p + 1, by omega⟩, [0], by dsimp only; omega, ?_⟩; dsimp only; rw [e]; exact leqB3)
            ·try (cases h93; done)
             all_goals (try simp only [CQ] at h93)
             all_goals
             refine Tri.skip ?_
             refine rY [1, 6, 7, 8] (fun P S K => XvBinOV P .add 3 (.const (.int .i64 1)) (S.get 8) (.atom (.int .i64 1)) (fun r1 _ => K ⟨[(1, S.get 1), (6, S.get 6), (7, S.get 7), (8, r1)], S.hp, S.nx, S.gh⟩)) ?_
             all_goals try simp (disch := omega) only [wrap_id, wrap8_id]
             all_goals
             first
             | (have e : openN c i (p + 1) = openN c i p + 1 := (by rw [hsucc, if_pos (by assumption)]); refine ⟨⟨p + 1, by omega⟩, [0], by dsimp only; omega, ?_⟩; dsimp only; rw [e]; exact leqB3)
             | (have e : openN c i (p + 1) = openN c i p := (by rw [hsucc, if_neg (by simp_all)]; rfl); refine ⟨⟨p + 1, by omega⟩, [0], by dsimp only; omega, ?_⟩; dsimp only; rw [e]; exact leqB3)
           ·try (cases h87; done)
            all_goals (try simp only [CQ] at h87)
            all_goals
            refine Tri.exit ?_
            have hpe : p = c.people.toNat := by omega
            subst hpe
            refine sY [1, 6, 97] (fun P S K => XvBinOV P .lss 3 (.const (.int .i64 2)) (S.get 7) (.atom (.int .i64 2)) (fun r1 _ => K ⟨[(1, S.get 1), (6, S.get 6), (97, r1)], S.hp, S.nx, S.gh⟩)) ?_
            all_goals
            refine Tri.cond rfl (fun h97 => ?_) (fun h97 => ?_)
            ·try (cases h97; done)
             all_goals (try simp only [CQ] at h97)
             all_goals
             refine sY [2] (fun P S K => K ⟨[(2, (.atom (.int .i64 6)))], S.hp, S.nx, S.gh⟩) ?_
             all_goals
             refine Tri.ret ?_
             show ResOk _ _ _ _
             rw [valid_scant (by omega) (by omega) hS hB hil (by omega)]
             exact ResOk.val lsrB3 lpvB3
            ·try (cases h97; done)
             all_goals (try simp only [CQ] at h97)
             all_goals
             refine Tri.skip ?_
             refine rY [1, 6] (fun P S K => XvBinOV P .add 3 (.const (.int .i64 1)) (S.get 6) (.atom (.int .i64 1)) (fun r1 _ => K ⟨[(1, S.get 1), (6, r1)], S.hp, S.nx, S.gh⟩)) ?_
             all_goals try simp (disch := omega) only [wrap_id, wrap8_id]
             all_goals
             refine ⟨⟨i + 1, by omega, fun j hj => ?_⟩, [0], by dsimp only; omega, ?_⟩
             · rcases Nat.lt_succ_iff_lt_or_eq.1 hj with hj | rfl
               · exact hns j hj
               · omega
             · exact leqB3
         ·try (cases h81; done)
          all_goals (try simp only [CQ] at h81)
          all_goals
          refine Tri.exit ?_
          refine sY [2] (fun P S K => K ⟨[(2, (.atom (.int .i64 0)))], S.hp, S.nx, S.gh⟩) ?_
          all_goals
          refine Tri.ret ?_
          show ResOk _ _ _ _
          rw [valid_ok (by omega) (by omega) hS hB (fun j hj => hns j (by omega))]
          exact ResOk.val lsrB3 lpvB3
theorem loads_bad {c : CaseD} {ps : List (Int × Int)} (h : validC c ≠ 0) : loadsE c ps = validC c ∧ loadsR c ps = [] := by
  have e : loadsE c ps = validC c := if_pos h
  exact ⟨e, if_neg (by rw [e]; exact h)⟩
theorem loads_len {c : CaseD} {ps : List (Int × Int)} (h : validC c = 0) (h2 : ps.length ≠ c.sizes.length) : loadsE c ps = 1 ∧ loadsR c ps = [] := by
  have e : loadsE c ps = 1 := by unfold loadsE; rw [if_neg (fun g => g h), if_pos h2]
  exact ⟨e, if_neg (by rw [e]; decide)⟩
theorem loads_pair {c : CaseD} {ps : List (Int × Int)} (h : validC c = 0) (h2 : ps.length = c.sizes.length) {i : Nat} (hi : i < ps.length) (hb : badPair c i (lp ps i) = true) : loadsE c ps = 1 ∧ loadsR c ps = [] := by
  have e : loadsE c ps = 1 := by unfold loadsE; rw [if_neg (fun g => g h), if_neg (fun g => g h2), if_pos (rangeAny_true (p := fun i => badPair c i (lp ps i)) hi hb)]
  exact ⟨e, if_neg (by rw [e]; decide)⟩
theorem loads_ok {c : CaseD} {ps : List (Int × Int)} (h : validC c = 0) (h2 : ps.length = c.sizes.length) (hb : ∀ i, i < ps.length → badPair c i (lp ps i) = false) : loadsE c ps = 0 ∧ loadsR c ps = loadsG c ps ps.length := by
  have e : loadsE c ps = 0 := by unfold loadsE; rw [if_neg (fun g => g h), if_neg (fun g => g h2), if_neg (by rw [rangeAny_false (p := fun i => badPair c i (lp ps i)) hb]; decide)]
  exact ⟨e, if_pos e⟩
theorem badPair_no {c : CaseD} {i : Nat} {x : Int × Int} (h : badPair c i x = false) : 0 ≤ x.1 ∧ x.1 < x.2 ∧ x.2 < c.people ∧ openB c i x.1 = true ∧ openB c i x.2 = true := by
  unfold badPair at h
  simp at h
  exact ⟨by omega, by omega, by omega, h.1.2, h.2⟩
theorem addAt_enc (l : List Int) (k v : Int) : (l.map encI).set k.toNat (PV.atom (.int .i64 (li l k.toNat + v))) = (addAt l k v).map encI := by
  unfold addAt; rw [List.map_set]; rfl
theorem zeros_loads (c : CaseD) (ps : List (Int × Int)) : List.replicate c.people.toNat (PV.atom (.int .i64 0)) = (loadsG c ps 0).map encI := by
  rw [loadsG, List.map_replicate]; rfl
theorem li_rng {l : List Int} {m M : Int} (h : ∀ x, x ∈ l → m ≤ x ∧ x ≤ M) (h0 : m ≤ 0 ∧ 0 ≤ M) (k : Nat) : m ≤ li l k ∧ li l k ≤ M := by
  by_cases hk : k < l.length
  · exact h _ (li_mem hk)
  · have : li l k = 0 := by unfold li; simp [List.getD_eq_getElem?_getD, hk]
    omega
end Go.Proofs.Ytcdeilgijleoaaa
