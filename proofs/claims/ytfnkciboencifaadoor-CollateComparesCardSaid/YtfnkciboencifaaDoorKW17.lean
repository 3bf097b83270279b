/-
  Walks: the reference model of collations: what is valid.
-/
import Derived.Test.YtfnkciboencifaaDoorKW1
set_option linter.all false
namespace Go.Proofs.YtfnkciboencifaaDoor
open Go Go.RowKit
set_option linter.unusedSimpArgs false
set_option linter.unusedVariables false
set_option maxRecDepth 20000

theorem leqW2 {p : Prop} (h : p := by (refine ⟨4, ?_, ?_, rfl, by simp, rfl, fun _ h _ => absurd h (Nat.not_lt_zero _)⟩ <;> (simp only [List.forall_mem_cons]; repeat' (first | refine And.intro ?_ ?_ | (intro p hp; exact absurd hp List.not_mem_nil) | rfl | exact sp (pure_spec _) | exact (sealed_pure _ _ _ (pure_ints _)).trans (ren_ints _ _).symm | exact (sealed_pure _ _ _ (pure_strs _)).trans (ren_strs _ _).symm | (intro o ho; cases ho; refine ⟨by decide, ?_⟩; first | (refine LeqS.row rfl ?_ ?_; (next => (first | rfl | (simp only [List.map_append, List.map_cons, List.map_nil, List.append_nil, List.nil_append, List.append_assoc, List.cons_append, encI, encS, ints, strs]; done) | (simp [encI, encS, ints, strs]; done))); (next => (first | rfl | exact pureL_encI _ | exact pureL_encS _ | exact pureL_ints _ | exact pureL_strs _ | (simp [pureL_append, pureL_encI, pureL_encS, pureL_ints, pureL_strs, pureL, PV.pure, pure_ints, pure_strs, pure_spec]; done))); done) | refine ⟨_, rfl, rfl, ?_⟩) | (simp [St.born, St.known, retV, St.get, St.obj, lk, sealed, PV.ren, renL, rmap, AO.ren, ints, strs, encI, encS, map_sealed_encI, map_sealed_encS, map_sealed_ints, map_sealed_strs, map_ren_encI, map_ren_encS, map_ren_ints, map_ren_strs, renL_encI, renL_encS, renL_ints, renL_strs, ren_spec] <;> omega))))) : p := h
theorem lsrW2 {p : Prop} (h : p := by (first | rfl | (simp [St.born, St.known, retV, St.get, St.obj, lk, sealed, PV.ren, renL, rmap, AO.ren, ints, strs, encI, encS, map_sealed_encI, map_sealed_encS, map_sealed_ints, map_sealed_strs, map_ren_encI, map_ren_encS, map_ren_ints, map_ren_strs, renL_encI, renL_encS, renL_ints, renL_strs, ren_spec]; done))) : p := h
theorem lpvW2 {p : Prop} (h : p := by (first | rfl | (simp [pure_ints, pure_strs, PV.pure, pureL, pureL_encI, pureL_encS, pureL_ints, pureL_strs, pure_spec]; done))) : p := h
/-- A proposition as a truth value. -/
noncomputable def tB (p : Prop) : Bool := @decide p (Classical.propDecidable p)
theorem tB_yes {p : Prop} (h : p) : tB p = true := by unfold tB; exact @decide_eq_true p (Classical.propDecidable p) h
theorem tB_no {p : Prop} (h : ¬ p) : tB p = false := by unfold tB; exact @decide_eq_false p (Classical.propDecidable p) h
theorem tB_iff {p : Prop} : tB p = true ↔ p := ⟨fun h => Classical.byContradiction fun hn => (by rw [tB_no hn] at h; cases h), tB_yes⟩
theorem tB_not {p : Prop} : tB p = false ↔ ¬ p := ⟨fun h hp => (by rw [tB_yes hp] at h; cases h), tB_no⟩
/-- The choice by a proposition. -/
noncomputable def tI {α : Type} (p : Prop) (a b : α) : α := if tB p then a else b
theorem tI_yes {α : Type} {p : Prop} {a b : α} (h : p) : tI p a b = a := by unfold tI; rw [tB_yes h]; rfl
theorem tI_no {α : Type} {p : Prop} {a b : α} (h : ¬ p) : tI p a b = b := by unfold tI; rw [tB_no h]; rfl

def encB (c : UInt8) : PV := .atom (.int .u8 (c.toNat : Nat))
structure SpecD where
  words : Bool
  skip : List ByteArray
  numbers : Bool
  order : List ByteArray
def encSpec (s : SpecD) : PV := .agg [.atom (.bool s.words), strs s.skip, .atom (.bool s.numbers), strs s.order]
theorem pure_spec (s : SpecD) : (encSpec s).pure = true := by simp [encSpec, PV.pure, pureL, pure_strs]
theorem ren_spec (ρ : Nat → Nat) (s : SpecD) : (encSpec s).ren ρ = encSpec s := ren_pure ρ _ (pure_spec s)
structure Sane (s : SpecD) : Prop where
  skip : s.skip.length ≤ 1000000000
  order : s.order.length ≤ 1000000000
  skips : ∀ x, x ∈ s.skip → x.size ≤ 4294967296
  orders : ∀ x, x ∈ s.order → x.size ≤ 4294967296
theorem Sane.sk {s : SpecD} (h : Sane s) {k : Nat} (hk : k < s.skip.length) : (ls s.skip k).size ≤ 4294967296 := h.skips _ (ls_mem hk)
theorem Sane.od {s : SpecD} (h : Sane s) {k : Nat} (hk : k < s.order.length) : (ls s.order k).size ≤ 4294967296 := h.orders _ (ls_mem hk)

def isDig (c : UInt8) : Bool := decide (48 ≤ c.toNat ∧ c.toNat ≤ 57)
theorem rdigit_pure (c : UInt8) : Pure Tryd.prog 88 [encB c] (.atom (.bool (isDig c))) [] := by
  refine Pure.intro (ts := [2]) Tryd.func88 (by kernel_rfl) rfl rfl rfl (Nat.le_of_ble_eq_true rfl) ?_ ?_
  · simp [encB, PV.pure]
  refine sZ [0] (fun P S K => K ⟨[(0, S.get 0)], S.hp, S.nx, S.gh⟩) fun K hK => ?_
  repeat' (first | (refine hK _ ?_; clear hK K) | ((first | refine xG_intro (fun hg => ?_) (fun hg => ?_) | refine fun (hg : (_ : Prop)) => ?_) <;> ((try simp only [BQ] at hg); try (exfalso; omega))) | refine And.intro ?_ ?_ | exact cl | refine one_take ?_ _ | refine one_drop ?_ _ | refine st ?_ | simp only [encB])
  all_goals try simp (disch := omega) only [wrap_id, wrap8_id]
  all_goals
   refine sZ [2] (fun P S K => XvBinOV P .geq 5 (.const (.int .u8 48)) (S.get 0) (.atom (.int .u8 48)) (fun r1 _ => Xgq r1 true (fun k => k (S.get 0)) (fun g3 r3 => Xgq g3 true (fun k => XvBinOV P .leq 5 (.const (.int .u8 57)) r3 (.atom (.int .u8 57)) (fun r4 _ => k r4)) (fun g4 r4 => XvPick g4 r4 (.atom (.bool false)) (fun r5 _ => K ⟨[(2, r5)], S.hp, S.nx, S.gh⟩))))) fun K hK => ?_
   repeat' (first | (refine hK _ ?_; clear hK K) | ((first | refine xG_intro (fun hg => ?_) (fun hg => ?_) | refine fun (hg : (_ : Prop)) => ?_) <;> ((try simp only [BQ] at hg); try (exfalso; omega))) | refine And.intro ?_ ?_ | exact cl | refine one_take ?_ _ | refine one_drop ?_ _ | refine st ?_ | simp only [encB])
   all_goals try simp (disch := omega) only [wrap_id, wrap8_id]
   all_goals
    refine Tri.ret ?_
    show ResOk _ _ _ _
    exact ResOk.val (aB (by unfold isDig; first | (rw [Bool.eq_iff_iff, decide_eq_true_eq, decide_eq_true_eq]; omega) | (symm; rw [decide_eq_false_iff_not]; omega))) rfl

def SmallP (w : ByteArray) : Prop := 0 < w.size ∧ w.size ≤ 24 ∧ ∀ i, i < w.size → 97 ≤ (byteAt w i).toNat ∧ (byteAt w i).toNat ≤ 122
theorem rsmall_pure (w : ByteArray) (hw : w.size ≤ 4294967296) : Pure Tryd.prog 43 [encS w] (.atom (.bool (tB (SmallP w)))) [] := by
  refine Pure.intro (ts := [2]) Tryd.func43 (by kernel_rfl) rfl rfl rfl (Nat.le_of_ble_eq_true rfl) ?_ ?_
  · simp [pure_ints, pure_strs, encI, encS, PV.pure, pureL]
  refine sZ [0] (fun P S K => K ⟨[(0, S.get 0)], S.hp, S.nx, S.gh⟩) fun K hK => ?_
  repeat' (first | (refine hK _ ?_; clear hK K) | ((first | refine xG_intro (fun hg => ?_) (fun hg => ?_) | refine fun (hg : (_ : Prop)) => ?_) <;> ((try simp only [BQ] at hg); try (exfalso; omega))) | refine And.intro ?_ ?_ | exact cl | refine one_take ?_ _ | refine one_drop ?_ _ | refine st ?_)
  all_goals try simp (disch := omega) only [wrap_id, wrap8_id]
  all_goals
   refine Tri.seq ?_
   refine sZ [0, 3] (fun P S K => K ⟨[(0, S.get 0), (3, (.atom (.int .i64 0)))], S.hp, S.nx, S.gh⟩) fun K hK => ?_
   repeat' (first | (refine hK _ ?_; clear hK K) | ((first | refine xG_intro (fun hg => ?_) (fun hg => ?_) | refine fun (hg : (_ : Prop)) => ?_) <;> ((try simp only [BQ] at hg); try (exfalso; omega))) | refine And.intro ?_ ?_ | exact cl | refine one_take ?_ _ | refine one_drop ?_ _ | refine st ?_)
   all_goals try simp (disch := omega) only [wrap_id, wrap8_id]
   all_goals
    refine Tri.block ?_
    refine Tri.loop (α := (k : Nat) ×' (k ≤ w.size ∧ ∀ i, i < k → 97 ≤ (byteAt w i).toNat ∧ (byteAt w i).toNat ≤ 122)) (fun z => (fun (k : Nat) => (⟨[(0, encS w), (3, encI k)], [], 0, []⟩ : St)) z.1) (fun z => (fun (k : Nat) => w.size - k) z.1) ⟨0, ⟨by omega, by omega⟩⟩ [] ?_ ?_
    · exact leqW2
    · rintro ⟨k, ⟨hk, hkj⟩⟩
      refine Tri.seq ?_
      refine sZ [0, 3, 7] (fun P S K => XvLen P 9 (S.get 0) (fun r2 _ => XvBinOV P .lss 3 (.tmp 6) (S.get 3) r2 (fun r3 _ => K ⟨[(0, S.get 0), (3, S.get 3), (7, r3)], S.hp, S.nx, S.gh⟩))) fun K hK => ?_
      repeat' (first | (refine hK _ ?_; clear hK K) | ((first | refine xG_intro (fun hg => ?_) (fun hg => ?_) | refine fun (hg : (_ : Prop)) => ?_) <;> ((try simp only [BQ] at hg); try (exfalso; omega))) | refine And.intro ?_ ?_ | exact cl | refine one_take ?_ _ | refine one_drop ?_ _ | refine st ?_)
      all_goals try simp (disch := omega) only [wrap_id, wrap8_id]
      all_goals
       refine Tri.cond rfl (fun h7 => ?_) (fun h7 => ?_)
       · try (cases h7; done)
         all_goals (try simp only [CQ] at h7)
         all_goals
          refine Tri.skip ?_
          refine Tri.seq ?_
          refine Tri.block ?_
          refine sZ [0, 3, 19] (fun P S K => XvIndex P 9 (S.get 0) (S.get 3) (fun r2 _ => XvBinOV P .lss 5 (.const (.int .u8 97)) r2 (.atom (.int .u8 97)) (fun r3 _ => Xgq r3 false (fun k => k (S.get 0)) (fun g5 r5 => Xgq g5 false (fun k => k (S.get 3)) (fun g6 r6 => Xgq g6 false (fun k => XvIndex P 9 r5 r6 (fun r7 _ => k r7)) (fun g7 r7 => Xgq g7 false (fun k => XvBinOV P .gtr 5 (.const (.int .u8 122)) r7 (.atom (.int .u8 122)) (fun r8 _ => k r8)) (fun g8 r8 => XvPick g8 (.atom (.bool true)) r8 (fun r9 _ => K ⟨[(0, S.get 0), (3, S.get 3), (19, r9)], S.hp, S.nx, S.gh⟩)))))))) fun K hK => ?_
          repeat' (first | (refine hK _ ?_; clear hK K) | ((first | refine xG_intro (fun hg => ?_) (fun hg => ?_) | refine fun (hg : (_ : Prop)) => ?_) <;> ((try simp only [BQ] at hg); try (exfalso; omega))) | refine And.intro ?_ ?_ | exact cl | refine one_take ?_ _ | refine one_drop ?_ _ | refine st ?_)
          all_goals try simp (disch := omega) only [wrap_id, wrap8_id]
          all_goals
           refine Tri.cond rfl (fun h19 => ?_) (fun h19 => ?_)
           · try (cases h19; done)
             all_goals (try simp only [CQ] at h19)
             all_goals
              refine sZ [2] (fun P S K => K ⟨[(2, (.atom (.bool false)))], S.hp, S.nx, S.gh⟩) fun K hK => ?_
              repeat' (first | (refine hK _ ?_; clear hK K) | ((first | refine xG_intro (fun hg => ?_) (fun hg => ?_) | refine fun (hg : (_ : Prop)) => ?_) <;> ((try simp only [BQ] at hg); try (exfalso; omega))) | refine And.intro ?_ ?_ | exact cl | refine one_take ?_ _ | refine one_drop ?_ _ | refine st ?_)
              all_goals try simp (disch := omega) only [wrap_id, wrap8_id]
              all_goals
               refine Tri.ret ?_
               show ResOk _ _ _ _
               exact ResOk.val (aB (tB_no (fun h => by have := h.2.2 k (by omega); omega)).symm) rfl
           · try (cases h19; done)
             all_goals (try simp only [CQ] at h19)
             all_goals
              refine Tri.skip ?_
              refine rZ [0, 3] (fun P S K => XvBinOV P .add 3 (.const (.int .i64 1)) (S.get 3) (.atom (.int .i64 1)) (fun r1 _ => K ⟨[(0, S.get 0), (3, r1)], S.hp, S.nx, S.gh⟩)) fun K hK => ?_
              repeat' (first | (refine hK _ ?_; clear hK K) | ((first | refine xG_intro (fun hg => ?_) (fun hg => ?_) | refine fun (hg : (_ : Prop)) => ?_) <;> ((try simp only [BQ] at hg); try (exfalso; omega))) | refine And.intro ?_ ?_ | exact cl | refine one_take ?_ _ | refine one_drop ?_ _ | refine st ?_)
              all_goals try simp (disch := omega) only [wrap_id, wrap8_id]
              all_goals
               refine ⟨⟨k + 1, by omega, fun j hj => ?_⟩, [], by dsimp only; omega, ?_⟩
               · rcases Nat.lt_succ_iff_lt_or_eq.1 hj with hj | rfl
                 · exact hkj j hj
                 · omega
               · exact leqW2
       · try (cases h7; done)
         all_goals (try simp only [CQ] at h7)
         all_goals
          refine Tri.exit ?_
          refine sZ [2] (fun P S K => XvLen P 9 (S.get 0) (fun r1 _ => XvBinOV P .gtr 3 (.const (.int .i64 0)) r1 (.atom (.int .i64 0)) (fun r2 _ => Xgq r2 true (fun k => k (S.get 0)) (fun g4 r4 => Xgq g4 true (fun k => XvLen P 9 r4 (fun r5 _ => k r5)) (fun g5 r5 => Xgq g5 true (fun k => XvBinOV P .leq 3 (.const (.int .i64 24)) r5 (.atom (.int .i64 24)) (fun r6 _ => k r6)) (fun g6 r6 => XvPick g6 r6 (.atom (.bool false)) (fun r7 _ => K ⟨[(2, r7)], S.hp, S.nx, S.gh⟩))))))) fun K hK => ?_
          repeat' (first | (refine hK _ ?_; clear hK K) | ((first | refine xG_intro (fun hg => ?_) (fun hg => ?_) | refine fun (hg : (_ : Prop)) => ?_) <;> ((try simp only [BQ] at hg); try (exfalso; omega))) | refine And.intro ?_ ?_ | exact cl | refine one_take ?_ _ | refine one_drop ?_ _ | refine st ?_)
          all_goals try simp (disch := omega) only [wrap_id, wrap8_id]
          all_goals
           refine Tri.ret ?_
           show ResOk _ _ _ _
           refine ResOk.val (aB ?_) rfl
           rw [Bool.eq_iff_iff, tB_iff]
           simp only [decide_eq_true_eq, Bool.false_eq_true]
           constructor
           · intro h
             first | exact h.elim | exact ⟨by omega, by omega, fun i hi => hkj i (by omega)⟩
           · intro h; have := h.1; have := h.2.1; omega

def AtP (s : SpecD) (c : UInt8) (g i : Nat) : Prop := g < s.order.length ∧ i < (ls s.order g).size ∧ byteAt (ls s.order g) i = c
def FirstP (s : SpecD) (c : UInt8) (g i : Nat) : Prop := AtP s c g i ∧ ∀ g' i', AtP s c g' i' → g < g' ∨ (g = g' ∧ i ≤ i')
open Classical in
noncomputable def grp (s : SpecD) (c : UInt8) : Int × Int := if h : ∃ p : Nat × Nat, FirstP s c p.1 p.2 then (((Classical.choose h).1 : Nat), ((Classical.choose h).2 : Nat)) else (-1, -1)
open Classical in
theorem grp_first {s : SpecD} {c : UInt8} {g i : Nat} (h : FirstP s c g i) : grp s c = ((g : Int), (i : Int)) := by
  have hx : ∃ p : Nat × Nat, FirstP s c p.1 p.2 := ⟨(g, i), h⟩
  unfold grp
  rw [dif_pos hx]
  have h2 := Classical.choose_spec hx
  have a := h.2 _ _ h2.1
  have b := h2.2 _ _ h.1
  have e1 : (Classical.choose hx).1 = g := by omega
  have e2 : (Classical.choose hx).2 = i := by omega
  rw [e1, e2]
open Classical in
theorem grp_none {s : SpecD} {c : UInt8} (h : ∀ g i, ¬ AtP s c g i) : grp s c = (-1, -1) := by
  unfold grp
  rw [dif_neg]
  rintro ⟨p, hp⟩
  exact h _ _ hp.1
theorem u8_eq {a b : UInt8} (h : (a.toNat : Int) = (b.toNat : Int)) : a = b := UInt8.toNat_inj.1 (by omega)
theorem Group_pure (s : SpecD) (c : UInt8) (hs : Sane s) : Pure Tryd.prog 44 [encSpec s, encB c] (.tup [encI (grp s c).1, encI (grp s c).2]) [] := by
  have hso := hs.order
  refine Pure.intro (ts := [4, 5]) Tryd.func44 (by kernel_rfl) rfl rfl rfl (Nat.le_of_ble_eq_true rfl) ?_ ?_
  · simp [encB, encSpec, PV.pure, pureL, pure_strs]
  refine sZ [1, 2] (fun P S K => XvBox S.nx (S.get 0) (fun r0 e0 => K ⟨[(1, S.get 1), (2, r0)], (Eff.hp e0 S.nx S.hp), (S.nx + e0.add.length), S.gh⟩)) fun K hK => ?_
  repeat' (first | (refine hK _ ?_; clear hK K) | ((first | refine xG_intro (fun hg => ?_) (fun hg => ?_) | refine fun (hg : (_ : Prop)) => ?_) <;> ((try simp only [BQ] at hg); try (exfalso; omega))) | refine And.intro ?_ ?_ | exact cl | refine one_take ?_ _ | refine one_drop ?_ _ | refine st ?_ | simp only [encB, encSpec])
  all_goals try simp (disch := omega) only [wrap_id, wrap8_id]
  all_goals
   refine Tri.seq ?_
   refine sZ [1, 2, 6] (fun P S K => K ⟨[(1, S.get 1), (2, S.get 2), (6, (.atom (.int .i64 0)))], S.hp, S.nx, S.gh⟩) fun K hK => ?_
   repeat' (first | (refine hK _ ?_; clear hK K) | ((first | refine xG_intro (fun hg => ?_) (fun hg => ?_) | refine fun (hg : (_ : Prop)) => ?_) <;> ((try simp only [BQ] at hg); try (exfalso; omega))) | refine And.intro ?_ ?_ | exact cl | refine one_take ?_ _ | refine one_drop ?_ _ | refine st ?_ | simp only [encB, encSpec])
   all_goals try simp (disch := omega) only [wrap_id, wrap8_id]
   all_goals
    refine Tri.block ?_
    refine Tri.loop (α := (g : Nat) ×' (g ≤ s.order.length ∧ ∀ g' i', g' < g → ¬ AtP s c g' i')) (fun z => (fun (g : Nat) => (⟨[(1, encB c), (2, .ptr 0 4 0 0), (6, encI g)], [(0, some ⟨4, [encSpec s]⟩)], 1, []⟩ : St)) z.1) (fun z => (fun (g : Nat) => s.order.length - g) z.1) ⟨0, ⟨by omega, by omega⟩⟩ [0] ?_ ?_
    · exact leqW2
    · rintro ⟨g, ⟨hg, hb⟩⟩
      refine Tri.seq ?_
      refine sZ [1, 2, 6, 12] (fun P S K => XvFieldAddr P 35 3 (S.get 2) (fun r1 _ => XvLoad P 25 (M S.hp S.nx) r1 (fun r2 _ => XvLen P 25 r2 (fun r3 _ => XvBinOV P .lss 3 (.tmp 11) (S.get 6) r3 (fun r4 _ => K ⟨[(1, S.get 1), (2, S.get 2), (6, S.get 6), (12, r4)], S.hp, S.nx, S.gh⟩))))) fun K hK => ?_
      repeat' (first | (refine hK _ ?_; clear hK K) | ((first | refine xG_intro (fun hg => ?_) (fun hg => ?_) | refine fun (hg : (_ : Prop)) => ?_) <;> ((try simp only [BQ] at hg); try (exfalso; omega))) | refine And.intro ?_ ?_ | exact cl | refine one_take ?_ _ | refine one_drop ?_ _ | refine st ?_ | simp only [encB, encSpec])
      all_goals try simp (disch := omega) only [wrap_id, wrap8_id]
      all_goals
       refine Tri.cond rfl (fun h12 => ?_) (fun h12 => ?_)
       · try (cases h12; done)
         all_goals (try simp only [CQ] at h12)
         all_goals
          refine Tri.skip ?_
          refine Tri.seq ?_
          refine Tri.block ?_
          refine sZ [1, 2, 6, 7] (fun P S K => K ⟨[(1, S.get 1), (2, S.get 2), (6, S.get 6), (7, (.atom (.int .i64 0)))], S.hp, S.nx, S.gh⟩) fun K hK => ?_
          repeat' (first | (refine hK _ ?_; clear hK K) | ((first | refine xG_intro (fun hg => ?_) (fun hg => ?_) | refine fun (hg : (_ : Prop)) => ?_) <;> ((try simp only [BQ] at hg); try (exfalso; omega))) | refine And.intro ?_ ?_ | exact cl | refine one_take ?_ _ | refine one_drop ?_ _ | refine st ?_ | simp only [encB, encSpec])
          all_goals try simp (disch := omega) only [wrap_id, wrap8_id]
          all_goals
           refine Tri.block ?_
           refine Tri.loop (α := (i : Nat) ×' (i ≤ (ls s.order g).size ∧ ∀ i', i' < i → ¬ AtP s c g i')) (fun z => (fun (i : Nat) => (⟨[(1, encB c), (2, .ptr 0 4 0 0), (6, encI g), (7, encI i)], [(0, some ⟨4, [encSpec s]⟩)], 1, []⟩ : St)) z.1) (fun z => (fun (i : Nat) => (ls s.order g).size - i) z.1) ⟨0, ⟨by omega, by omega⟩⟩ [0] ?_ ?_
           · exact leqW2
           · rintro ⟨i, ⟨hi, hbi⟩⟩
             refine Tri.seq ?_
             have hgl : g < s.order.length := by omega
             have hgs := hs.od hgl
             refine sZ [1, 2, 6, 7, 22] (fun P S K => XvFieldAddr P 35 3 (S.get 2) (fun r1 _ => XvLoad P 25 (M S.hp S.nx) r1 (fun r2 _ => XvIndexAddr P 25 r2 (S.get 6) (fun r4 _ => XvLoad P 9 (M S.hp S.nx) r4 (fun r5 _ => XvLen P 9 r5 (fun r6 _ => XvBinOV P .lss 3 (.tmp 21) (S.get 7) r6 (fun r7 _ => K ⟨[(1, S.get 1), (2, S.get 2), (6, S.get 6), (7, S.get 7), (22, r7)], S.hp, S.nx, S.gh⟩))))))) fun K hK => ?_
             repeat' (first | (refine hK _ ?_; clear hK K) | ((first | refine xG_intro (fun hg => ?_) (fun hg => ?_) | refine fun (hg : (_ : Prop)) => ?_) <;> ((try simp only [BQ] at hg); try (exfalso; omega))) | refine And.intro ?_ ?_ | exact cl | refine one_take ?_ _ | refine one_drop ?_ _ | refine st ?_ | simp only [encB, encSpec, getD_encS hgl])
             all_goals try simp (disch := omega) only [wrap_id, wrap8_id]
             all_goals
              refine Tri.cond rfl (fun h22 => ?_) (fun h22 => ?_)
              · try (cases h22; done)
                all_goals (try simp only [CQ] at h22)
                all_goals
                 refine Tri.skip ?_
                 refine Tri.seq ?_
                 refine Tri.block ?_
                 refine sZ [1, 2, 6, 7, 33] (fun P S K => XvFieldAddr P 35 3 (S.get 2) (fun r0 _ => XvLoad P 25 (M S.hp S.nx) r0 (fun r1 _ => XvIndexAddr P 25 r1 (S.get 6) (fun r3 _ => XvLoad P 9 (M S.hp S.nx) r3 (fun r4 _ => XvIndex P 9 r4 (S.get 7) (fun r6 _ => XvBinOV P .eql 5 (.tmp 32) r6 (S.get 1) (fun r8 _ => K ⟨[(1, S.get 1), (2, S.get 2), (6, S.get 6), (7, S.get 7), (33, r8)], S.hp, S.nx, S.gh⟩))))))) fun K hK => ?_
                 repeat' (first | (refine hK _ ?_; clear hK K) | ((first | refine xG_intro (fun hg => ?_) (fun hg => ?_) | refine fun (hg : (_ : Prop)) => ?_) <;> ((try simp only [BQ] at hg); try (exfalso; omega))) | refine And.intro ?_ ?_ | exact cl | refine one_take ?_ _ | refine one_drop ?_ _ | refine st ?_ | simp only [encB, encSpec, getD_encS hgl])
                 all_goals try simp (disch := omega) only [wrap_id, wrap8_id]
                 all_goals
                  refine Tri.cond rfl (fun h33 => ?_) (fun h33 => ?_)
                  · try (cases h33; done)
                    all_goals (try simp only [CQ] at h33)
                    all_goals
                     refine sZ [4, 5] (fun P S K => K ⟨[(4, (S.get 6)), (5, (S.get 7))], S.hp, S.nx, S.gh⟩) fun K hK => ?_
                     repeat' (first | (refine hK _ ?_; clear hK K) | ((first | refine xG_intro (fun hg => ?_) (fun hg => ?_) | refine fun (hg : (_ : Prop)) => ?_) <;> ((try simp only [BQ] at hg); try (exfalso; omega))) | refine And.intro ?_ ?_ | exact cl | refine one_take ?_ _ | refine one_drop ?_ _ | refine st ?_ | simp only [encB, encSpec])
                     all_goals try simp (disch := omega) only [wrap_id, wrap8_id]
                     all_goals
                      refine Tri.ret ?_
                      show ResOk _ _ _ _
                      have hF : FirstP s c g i := ⟨⟨hgl, by omega, u8_eq h33⟩, fun g' i' h' => by
                        rcases Nat.lt_trichotomy g' g with h1 | rfl | h1
                        · exact absurd h' (hb g' i' h1)
                        · exact .inr ⟨rfl, Nat.le_of_not_lt fun h2 => hbi i' h2 h'⟩
                        · exact .inl h1⟩
                      rw [grp_first hF]
                      exact ResOk.val lsrW2 lpvW2
                  · try (cases h33; done)
                    all_goals (try simp only [CQ] at h33)
                    all_goals
                     refine Tri.skip ?_
                     refine rZ [1, 2, 6, 7] (fun P S K => XvBinOV P .add 3 (.const (.int .i64 1)) (S.get 7) (.atom (.int .i64 1)) (fun r1 _ => K ⟨[(1, S.get 1), (2, S.get 2), (6, S.get 6), (7, r1)], S.hp, S.nx, S.gh⟩)) fun K hK => ?_
                     repeat' (first | (refine hK _ ?_; clear hK K) | ((first | refine xG_intro (fun hg => ?_) (fun hg => ?_) | refine fun (hg : (_ : Prop)) => ?_) <;> ((try simp only [BQ] at hg); try (exfalso; omega))) | refine And.intro ?_ ?_ | exact cl | refine one_take ?_ _ | refine one_drop ?_ _ | refine st ?_ | simp only [encB, encSpec])
                     all_goals try simp (disch := omega) only [wrap_id, wrap8_id]
                     all_goals
                      refine ⟨⟨i + 1, by omega, fun j hj => ?_⟩, [0], by dsimp only; omega, ?_⟩
                      · rcases Nat.lt_succ_iff_lt_or_eq.1 hj with hj | rfl
                        · exact hbi j hj
                        · intro h'; exact h33 (by rw [h'.2.2])
                      · exact leqW2
              · try (cases h22; done)
                all_goals (try simp only [CQ] at h22)
                all_goals
                 refine Tri.exit ?_
                 refine rZ [1, 2, 6] (fun P S K => XvBinOV P .add 3 (.const (.int .i64 1)) (S.get 6) (.atom (.int .i64 1)) (fun r1 _ => K ⟨[(1, S.get 1), (2, S.get 2), (6, r1)], S.hp, S.nx, S.gh⟩)) fun K hK => ?_
                 repeat' (first | (refine hK _ ?_; clear hK K) | ((first | refine xG_intro (fun hg => ?_) (fun hg => ?_) | refine fun (hg : (_ : Prop)) => ?_) <;> ((try simp only [BQ] at hg); try (exfalso; omega))) | refine And.intro ?_ ?_ | exact cl | refine one_take ?_ _ | refine one_drop ?_ _ | refine st ?_ | simp only [encB, encSpec])
                 all_goals try simp (disch := omega) only [wrap_id, wrap8_id]
                 all_goals
                  refine ⟨⟨g + 1, by omega, fun g' i' hj => ?_⟩, [0], by dsimp only; omega, ?_⟩
                  · rcases Nat.lt_succ_iff_lt_or_eq.1 hj with hj | rfl
                    · exact hb g' i' hj
                    · intro h'; exact hbi i' (by have := h'.2.1; omega) h'
                  · exact leqW2
       · try (cases h12; done)
         all_goals (try simp only [CQ] at h12)
         all_goals
          refine Tri.exit ?_
          refine sZ [4, 5] (fun P S K => K ⟨[(4, (.atom (.int .i64 (-1)))), (5, (.atom (.int .i64 (-1))))], S.hp, S.nx, S.gh⟩) fun K hK => ?_
          repeat' (first | (refine hK _ ?_; clear hK K) | ((first | refine xG_intro (fun hg => ?_) (fun hg => ?_) | refine fun (hg : (_ : Prop)) => ?_) <;> ((try simp only [BQ] at hg); try (exfalso; omega))) | refine And.intro ?_ ?_ | exact cl | refine one_take ?_ _ | refine one_drop ?_ _ | refine st ?_ | simp only [encB, encSpec])
          all_goals try simp (disch := omega) only [wrap_id, wrap8_id]
          all_goals
           refine Tri.ret ?_
           show ResOk _ _ _ _
           rw [grp_none (fun g' i' h' => hb g' i' (by have := h'.1; omega) h')]
           exact ResOk.val lsrW2 lpvW2
end Go.Proofs.YtfnkciboencifaaDoor
set_option linter.all false
namespace Go.Proofs.YtfnkciboencifaaDoor
open Go Go.RowKit
set_option linter.unusedSimpArgs false
set_option linter.unusedVariables false
set_option maxRecDepth 20000
set_option maxHeartbeats 2000000
theorem leqW17 {p : Prop} (h : p := by (refine ⟨4, ?_, ?_, rfl, by simp, rfl, fun _ h _ => absurd h (Nat.not_lt_zero _)⟩ <;> (simp only [List.forall_mem_cons]; repeat' (first | refine And.intro ?_ ?_ | (intro p hp; exact absurd hp List.not_mem_nil) | rfl | exact (sealed_pure _ _ _ (pure_ints _)).trans (ren_ints _ _).symm | exact (sealed_pure _ _ _ (pure_strs _)).trans (ren_strs _ _).symm | (intro o ho; cases ho; refine ⟨by decide, ?_⟩; first | (refine LeqS.row rfl ?_ ?_; (next => (first | rfl | (simp only [List.map_append, List.map_cons, List.map_nil, List.append_nil, List.nil_append, List.append_assoc, List.cons_append, encI, encS, ints, strs]; done) | (simp [encI, encS, ints, strs]; done))); (next => (first | rfl | exact pureL_encI _ | exact pureL_encS _ | exact pureL_ints _ | exact pureL_strs _ | (simp [pureL_append, pureL_encI, pureL_encS, pureL_ints, pureL_strs, pureL, PV.pure, pure_ints, pure_strs]; done))); done) | refine ⟨_, rfl, rfl, ?_⟩) | (simp [St.born, St.known, retV, St.get, St.obj, lk, sealed, PV.ren, renL, rmap, AO.ren, ints, strs, encI, encS, map_sealed_encI, map_sealed_encS, map_sealed_ints, map_sealed_strs, map_ren_encI, map_ren_encS, map_ren_ints, map_ren_strs, renL_encI, renL_encS, renL_ints, renL_strs] <;> omega))))) : p := h
theorem atI_lo {l : List Int} {i m : Int} (hm : 0 < m) : 0 ≤ atI l i m := by
  unfold atI; split
  · omega
  · exact around_lo hm
theorem atI_hi {l : List Int} {i m : Int} (hm : 0 < m) : atI l i m < m := by
  unfold atI; split
  · omega
  · exact around_hi hm
/-- The words of Text. -/
def wordL : List ByteArray := [⟨#[116, 104, 101]⟩, ⟨#[84, 104, 101]⟩, ⟨#[97]⟩, ⟨#[111, 102]⟩, ⟨#[107, 105, 110, 103]⟩, ⟨#[75, 105, 110, 103]⟩, ⟨#[110, 101, 119]⟩, ⟨#[110, 101, 119, 97, 114, 107]⟩, ⟨#[121, 111, 114, 107]⟩, ⟨#[49]⟩, ⟨#[49, 48]⟩, ⟨#[57]⟩, ⟨#[48, 48, 55]⟩, ⟨#[120, 45, 49]⟩, ⟨#[98, 50, 99]⟩, ⟨#[66, 50, 99]⟩, ⟨#[63]⟩, ⟨#[111, 100, 101]⟩, ⟨#[79, 100, 101]⟩, ⟨#[116, 104, 101, 49]⟩]
def spS : ByteArray := ⟨#[32]⟩
def sp1 (i : Nat) (k : Int) (o : ByteArray) : ByteArray := if 0 < i ∨ 21 < k then o ++ spS else o
def sp2 (k : Int) (o : ByteArray) : ByteArray := if 20 < k then o ++ spS else o
theorem sp1_pos {i : Nat} {k : Int} {o : ByteArray} (h : 0 < i ∨ 21 < k) : sp1 i k o = o ++ spS := if_pos h
theorem sp1_neg {i : Nat} {k : Int} {o : ByteArray} (h : ¬ (0 < i ∨ 21 < k)) : sp1 i k o = o := if_neg h
theorem sp2_pos {k : Int} {o : ByteArray} (h : 20 < k) : sp2 k o = o ++ spS := if_pos h
theorem sp2_neg {k : Int} {o : ByteArray} (h : ¬ 20 < k) : sp2 k o = o := if_neg h
theorem sp1_size (i : Nat) (k : Int) (o : ByteArray) : (sp1 i k o).size ≤ o.size + 1 := by unfold sp1; split <;> simp [spS, ByteArray.size_append] <;> decide
theorem sp2_size (k : Int) (o : ByteArray) : (sp2 k o).size ≤ o.size + 1 := by unfold sp2; split <;> simp [spS, ByteArray.size_append] <;> decide
theorem wordL_size (k : Nat) : (ls wordL k).size ≤ 6 := by
  by_cases h : k < 20
  · have hall : ∀ k, k < 20 → (ls wordL k).size ≤ 6 := by decide
    exact hall k h
  · have : ls wordL k = ByteArray.empty := by
      unfold ls; rw [List.getD_eq_getElem?_getD, List.getElem?_eq_none (by show wordL.length ≤ k; have : wordL.length = 20 := rfl; omega)]; rfl
    rw [this]; decide
def textN (l : List Int) (a : Int) : Nat → ByteArray
  | 0 => ByteArray.empty
  | i + 1 => sp2 (atI l (a + 1 + i) 24) (sp1 i (atI l (a + 1 + i) 24) (textN l a i)) ++ ls wordL ((atI l (a + 1 + i) 24).tmod 20).toNat
theorem textN_size (l : List Int) (a : Int) : ∀ i, (textN l a i).size ≤ 8 * i
  | 0 => by simp [textN]
  | i + 1 => by
    have h0 := textN_size l a i
    have h1 := sp1_size i (atI l (a + 1 + i) 24) (textN l a i)
    have h2 := sp2_size (atI l (a + 1 + i) 24) (sp1 i (atI l (a + 1 + i) 24) (textN l a i))
    have h3 := wordL_size ((atI l (a + 1 + i) 24).tmod 20).toNat
    simp only [textN, ByteArray.size_append]; omega
def textS (l : List Int) (a : Int) : ByteArray := textN l a (atI l a 5).toNat
theorem textS_size (l : List Int) (a : Int) : (textS l a).size ≤ 40 := by
  have h := textN_size l a (atI l a 5).toNat
  have h2 := atI_hi (l := l) (i := a) (m := 5) (by decide)
  unfold textS; omega
theorem Text_pure (l : List Int) (a : Int) (hl : Fits l) (h0 : 0 ≤ a) (h1 : a ≤ 1000000000) : Pure Tryd.prog 34 [ints l, encI a] (encS (textS l a)) [] := by
  have hsp : (ByteArray.mk #[32]).size = 1 := rfl
  have hn0 := atI_lo (l := l) (i := a) (m := 5) (by decide)
  have hn1 := atI_hi (l := l) (i := a) (m := 5) (by decide)
  refine Pure.intro (ts := [4]) Tryd.func34 (by kernel_rfl) rfl rfl rfl (Nat.le_of_ble_eq_true rfl) ?_ ?_
  · simp [pure_ints, pure_strs, encI, encS, PV.pure, pureL]
  refine sZ [0, 1] (fun P S K => K ⟨[(0, S.get 0), (1, S.get 1)], S.hp, S.nx, S.gh⟩) fun K hK => ?_
  repeat' (first | (refine hK _ ?_; clear hK K) | ((first | refine xG_intro (fun hg => ?_) (fun hg => ?_) | refine fun (hg : (_ : Prop)) => ?_) <;> ((try simp only [BQ] at hg); try (exfalso; omega))) | refine And.intro ?_ ?_ | exact cl | refine one_take ?_ _ | refine one_drop ?_ _ | (refine st ?_; try simp only [spS]) | simp only [spS])
  all_goals try simp (disch := omega) only [wrap_id, wrap8_id]
  all_goals
   refine sZ [0, 1, 5] (fun P S K => XvBuildS P 25 20 S.nx [(0, (.atom (.string { data := #[116, 104, 101] }))), (1, (.atom (.string { data := #[84, 104, 101] }))), (2, (.atom (.string { data := #[97] }))), (3, (.atom (.string { data := #[111, 102] }))), (4, (.atom (.string { data := #[107, 105, 110, 103] }))), (5, (.atom (.string { data := #[75, 105, 110, 103] }))), (6, (.atom (.string { data := #[110, 101, 119] }))), (7, (.atom (.string { data := #[110, 101, 119, 97, 114, 107] }))), (8, (.atom (.string { data := #[121, 111, 114, 107] }))), (9, (.atom (.string { data := #[49] }))), (10, (.atom (.string { data := #[49, 48] }))), (11, (.atom (.string { data := #[57] }))), (12, (.atom (.string { data := #[48, 48, 55] }))), (13, (.atom (.string { data := #[120, 45, 49] }))), (14, (.atom (.string { data := #[98, 50, 99] }))), (15, (.atom (.string { data := #[66, 50, 99] }))), (16, (.atom (.string { data := #[63] }))), (17, (.atom (.string { data := #[111, 100, 101] }))), (18, (.atom (.string { data := #[79, 100, 101] }))), (19, (.atom (.string { data := #[116, 104, 101, 49] })))] (fun r0 e0 => K ⟨[(0, S.get 0), (1, S.get 1), (5, r0)], (Eff.hp e0 S.nx S.hp), (S.nx + e0.add.length), S.gh⟩)) fun K hK => ?_
   repeat' (first | (refine hK _ ?_; clear hK K) | ((first | refine xG_intro (fun hg => ?_) (fun hg => ?_) | refine fun (hg : (_ : Prop)) => ?_) <;> ((try simp only [BQ] at hg); try (exfalso; omega))) | refine And.intro ?_ ?_ | exact cl | refine one_take ?_ _ | refine one_drop ?_ _ | (refine st ?_; try simp only [spS]) | simp only [spS])
   all_goals try simp (disch := omega) only [wrap_id, wrap8_id]
   all_goals
    refine sZ [0, 1, 5, 6] (fun P S K => K ⟨[(0, S.get 0), (1, S.get 1), (5, S.get 5), (6, (.atom (.string { data := #[] })))], S.hp, S.nx, S.gh⟩) fun K hK => ?_
    repeat' (first | (refine hK _ ?_; clear hK K) | ((first | refine xG_intro (fun hg => ?_) (fun hg => ?_) | refine fun (hg : (_ : Prop)) => ?_) <;> ((try simp only [BQ] at hg); try (exfalso; omega))) | refine And.intro ?_ ?_ | exact cl | refine one_take ?_ _ | refine one_drop ?_ _ | (refine st ?_; try simp only [spS]) | simp only [spS])
    all_goals try simp (disch := omega) only [wrap_id, wrap8_id]
    all_goals
     refine sZ [0, 1, 5, 6, 7] (fun P S K => XvFnIV P (M S.hp S.nx) (.fn 50 []) [(S.get 0), (S.get 1), (.atom (.int .i64 5))] (fun r2 e2 => K ⟨[(0, S.get 0), (1, S.get 1), (5, S.get 5), (6, S.get 6), (7, r2)], (Eff.hp e2 S.nx S.hp), (S.nx + e2.add.length), S.gh⟩)) fun K hK => ?_
     repeat' (first | (refine hK _ ?_; clear hK K) | ((first | refine xG_intro (fun hg => ?_) (fun hg => ?_) | refine fun (hg : (_ : Prop)) => ?_) <;> ((try simp only [BQ] at hg); try (exfalso; omega))) | refine And.intro ?_ ?_ | exact cl | refine one_take ?_ _ | refine one_drop ?_ _ | refine .inl ⟨_, _, At_pure l a 5 hl (by unfold I64; omega) (by decide), ?_⟩ | refine ⟨_, _, At_pure l a 5 hl (by unfold I64; omega) (by decide), ?_⟩ | refine .inl ⟨_, _, At_pure l (a + 1 + i) 24 hl (by unfold I64; omega) (by decide), ?_⟩ | refine ⟨_, _, At_pure l (a + 1 + i) 24 hl (by unfold I64; omega) (by decide), ?_⟩ | (refine st ?_; try simp only [spS]) | simp only [spS])
     all_goals try simp (disch := omega) only [wrap_id, wrap8_id]
     all_goals
      refine Tri.seq ?_
      refine sZ [0, 1, 5, 6, 7, 8] (fun P S K => K ⟨[(0, S.get 0), (1, S.get 1), (5, S.get 5), (6, S.get 6), (7, S.get 7), (8, (.atom (.int .i64 0)))], S.hp, S.nx, S.gh⟩) fun K hK => ?_
      repeat' (first | (refine hK _ ?_; clear hK K) | ((first | refine xG_intro (fun hg => ?_) (fun hg => ?_) | refine fun (hg : (_ : Prop)) => ?_) <;> ((try simp only [BQ] at hg); try (exfalso; omega))) | refine And.intro ?_ ?_ | exact cl | refine one_take ?_ _ | refine one_drop ?_ _ | (refine st ?_; try simp only [spS]) | simp only [spS])
      all_goals try simp (disch := omega) only [wrap_id, wrap8_id]
      all_goals
       refine Tri.block ?_
       refine Tri.loop (α := (i : Nat) ×' ((i : Int) ≤ atI l a 5)) (fun z => (fun (i : Nat) => (⟨[(0, ints l), (1, encI a), (5, .ob 0 1 0 20), (6, encS (textN l a i)), (7, encI (atI l a 5)), (8, encI i)], [(0, some ⟨1, wordL.map encS⟩)], 1, []⟩ : St)) z.1) (fun z => (fun (i : Nat) => 5 - i) z.1) ⟨0, hn0⟩ [0] ?_ ?_
       · exact leqW17
       · rintro ⟨i, hi⟩
         refine Tri.seq ?_
         refine sZ [0, 1, 5, 6, 7, 8, 16] (fun P S K => XvBinOV P .lss 3 (.tmp 15) (S.get 8) (S.get 7) (fun r2 _ => K ⟨[(0, S.get 0), (1, S.get 1), (5, S.get 5), (6, S.get 6), (7, S.get 7), (8, S.get 8), (16, r2)], S.hp, S.nx, S.gh⟩)) fun K hK => ?_
         repeat' (first | (refine hK _ ?_; clear hK K) | ((first | refine xG_intro (fun hg => ?_) (fun hg => ?_) | refine fun (hg : (_ : Prop)) => ?_) <;> ((try simp only [BQ] at hg); try (exfalso; omega))) | refine And.intro ?_ ?_ | exact cl | refine one_take ?_ _ | refine one_drop ?_ _ | (refine st ?_; try simp only [spS]) | simp only [spS])
         all_goals try simp (disch := omega) only [wrap_id, wrap8_id]
         all_goals
          refine Tri.cond rfl (fun h16 => ?_) (fun h16 => ?_)
          · try (cases h16; done)
            all_goals (try simp only [CQ] at h16)
            all_goals
             refine Tri.skip ?_
             refine Tri.seq ?_
             refine Tri.block ?_
             have hw1 : IntKind.i64.wrap (a + 1) = a + 1 := wrap_id (by omega) (by omega)
             have hw2 : IntKind.i64.wrap (a + 1 + i) = a + 1 + i := wrap_id (by omega) (by omega)
             have hsz := textN_size l a i
             refine sZ [0, 1, 5, 6, 7, 8, 9] (fun P S K => XvBinOV P .add 3 (.const (.int .i64 1)) (S.get 1) (.atom (.int .i64 1)) (fun r2 _ => XvBinOV P .add 3 (.tmp 22) r2 (S.get 8) (fun r4 _ => XvFnIV P (M S.hp S.nx) (.fn 50 []) [(S.get 0), r4, (.atom (.int .i64 24))] (fun r5 e5 => K ⟨[(0, S.get 0), (1, S.get 1), (5, S.get 5), (6, S.get 6), (7, S.get 7), (8, S.get 8), (9, r5)], (Eff.hp e5 S.nx S.hp), (S.nx + e5.add.length), S.gh⟩)))) fun K hK => ?_
             repeat' (first | (refine hK _ ?_; clear hK K) | ((first | refine xG_intro (fun hg => ?_) (fun hg => ?_) | refine fun (hg : (_ : Prop)) => ?_) <;> ((try simp only [BQ] at hg); try (exfalso; omega))) | refine And.intro ?_ ?_ | exact cl | refine one_take ?_ _ | refine one_drop ?_ _ | refine .inl ⟨_, _, At_pure l a 5 hl (by unfold I64; omega) (by decide), ?_⟩ | refine ⟨_, _, At_pure l a 5 hl (by unfold I64; omega) (by decide), ?_⟩ | refine .inl ⟨_, _, At_pure l (a + 1 + i) 24 hl (by unfold I64; omega) (by decide), ?_⟩ | refine ⟨_, _, At_pure l (a + 1 + i) 24 hl (by unfold I64; omega) (by decide), ?_⟩ | (refine st ?_; try simp only [spS, hw1, hw2]) | simp only [spS, hw1, hw2])
             all_goals try simp (disch := omega) only [wrap_id, wrap8_id]
             have hk0 := atI_lo (l := l) (i := a + 1 + i) (m := 24) (by decide)
             have hk1 := atI_hi (l := l) (i := a + 1 + i) (m := 24) (by decide)
             all_goals
              refine Tri.cut (α := Unit) (fun ⟨⟩ => ⟨[(0, ints l), (1, encI a), (5, .ob 0 1 0 20), (6, encS (sp1 i (atI l (a + 1 + i) 24) (textN l a i))), (7, encI (atI l a 5)), (8, encI i), (9, encI (atI l (a + 1 + i) 24))], [(0, some ⟨1, wordL.map encS⟩)], 1, []⟩) ?_ ?_
              ·
                refine sZ [0, 1, 5, 6, 7, 8, 9, 30] (fun P S K => XvBinOV P .gtr 3 (.const (.int .i64 0)) (S.get 8) (.atom (.int .i64 0)) (fun r1 _ => Xgq r1 false (fun k => k (S.get 9)) (fun g3 r3 => Xgq g3 false (fun k => XvBinOV P .gtr 3 (.const (.int .i64 21)) r3 (.atom (.int .i64 21)) (fun r4 _ => k r4)) (fun g4 r4 => XvPick g4 (.atom (.bool true)) r4 (fun r5 _ => K ⟨[(0, S.get 0), (1, S.get 1), (5, S.get 5), (6, S.get 6), (7, S.get 7), (8, S.get 8), (9, S.get 9), (30, r5)], S.hp, S.nx, S.gh⟩))))) fun K hK => ?_
                repeat' (first | (refine hK _ ?_; clear hK K) | ((first | refine xG_intro (fun hg => ?_) (fun hg => ?_) | refine fun (hg : (_ : Prop)) => ?_) <;> ((try simp only [BQ] at hg); try (exfalso; omega))) | refine And.intro ?_ ?_ | exact cl | refine one_take ?_ _ | refine one_drop ?_ _ | (refine st ?_; try simp only [spS]) | simp only [spS])
                all_goals try simp (disch := omega) only [wrap_id, wrap8_id]
                all_goals
                 refine Tri.cond rfl (fun h30 => ?_) (fun h30 => ?_)
                 · try (cases h30; done)
                   all_goals (try simp only [CQ] at h30)
                   all_goals
                    refine rZ [0, 1, 5, 6, 7, 8, 9] (fun P S K => XvBinOV P .add 9 (.const (.string { data := #[32] })) (S.get 6) (.atom (.string { data := #[32] })) (fun r1 _ => K ⟨[(0, S.get 0), (1, S.get 1), (5, S.get 5), (6, r1), (7, S.get 7), (8, S.get 8), (9, S.get 9)], S.hp, S.nx, S.gh⟩)) fun K hK => ?_
                    repeat' (first | (refine hK _ ?_; clear hK K) | ((first | refine xG_intro (fun hg => ?_) (fun hg => ?_) | refine fun (hg : (_ : Prop)) => ?_) <;> ((try simp only [BQ] at hg); try (exfalso; omega))) | refine And.intro ?_ ?_ | exact cl | refine one_take ?_ _ | refine one_drop ?_ _ | (refine st ?_; try simp only [spS]) | simp only [spS])
                    all_goals try simp (disch := omega) only [wrap_id, wrap8_id]
                    all_goals
                     first | rw [sp1_pos (by omega)] | rw [sp1_neg (by omega)]
                     refine ⟨(), [0], ?_⟩
                     exact leqW17
                 · try (cases h30; done)
                   all_goals (try simp only [CQ] at h30)
                   all_goals
                    refine Tri.skip ?_
                    first | rw [sp1_pos (by omega)] | rw [sp1_neg (by omega)]
                    refine ⟨(), [0], ?_⟩
                    exact leqW17
              · rintro ⟨⟩
                refine Tri.cut (α := Unit) (fun ⟨⟩ => ⟨[(0, ints l), (1, encI a), (5, .ob 0 1 0 20), (6, encS (sp2 (atI l (a + 1 + i) 24) (sp1 i (atI l (a + 1 + i) 24) (textN l a i)))), (7, encI (atI l a 5)), (8, encI i), (9, encI (atI l (a + 1 + i) 24))], [(0, some ⟨1, wordL.map encS⟩)], 1, []⟩) ?_ ?_
                ·
                  have hs1 := sp1_size i (atI l (a + 1 + i) 24) (textN l a i)
                  refine sZ [0, 1, 5, 6, 7, 8, 9, 34] (fun P S K => XvBinOV P .gtr 3 (.const (.int .i64 20)) (S.get 9) (.atom (.int .i64 20)) (fun r1 _ => K ⟨[(0, S.get 0), (1, S.get 1), (5, S.get 5), (6, S.get 6), (7, S.get 7), (8, S.get 8), (9, S.get 9), (34, r1)], S.hp, S.nx, S.gh⟩)) fun K hK => ?_
                  repeat' (first | (refine hK _ ?_; clear hK K) | ((first | refine xG_intro (fun hg => ?_) (fun hg => ?_) | refine fun (hg : (_ : Prop)) => ?_) <;> ((try simp only [BQ] at hg); try (exfalso; omega))) | refine And.intro ?_ ?_ | exact cl | refine one_take ?_ _ | refine one_drop ?_ _ | (refine st ?_; try simp only [spS]) | simp only [spS])
                  all_goals try simp (disch := omega) only [wrap_id, wrap8_id]
                  all_goals
                   refine Tri.cond rfl (fun h34 => ?_) (fun h34 => ?_)
                   · try (cases h34; done)
                     all_goals (try simp only [CQ] at h34)
                     all_goals
                      refine rZ [0, 1, 5, 6, 7, 8, 9] (fun P S K => XvBinOV P .add 9 (.const (.string { data := #[32] })) (S.get 6) (.atom (.string { data := #[32] })) (fun r1 _ => K ⟨[(0, S.get 0), (1, S.get 1), (5, S.get 5), (6, r1), (7, S.get 7), (8, S.get 8), (9, S.get 9)], S.hp, S.nx, S.gh⟩)) fun K hK => ?_
                      repeat' (first | (refine hK _ ?_; clear hK K) | ((first | refine xG_intro (fun hg => ?_) (fun hg => ?_) | refine fun (hg : (_ : Prop)) => ?_) <;> ((try simp only [BQ] at hg); try (exfalso; omega))) | refine And.intro ?_ ?_ | exact cl | refine one_take ?_ _ | refine one_drop ?_ _ | (refine st ?_; try simp only [spS]) | simp only [spS])
                      all_goals try simp (disch := omega) only [wrap_id, wrap8_id]
                      all_goals
                       first | rw [sp2_pos (by omega)] | rw [sp2_neg (by omega)]
                       refine ⟨(), [0], ?_⟩
                       exact leqW17
                   · try (cases h34; done)
                     all_goals (try simp only [CQ] at h34)
                     all_goals
                      refine Tri.skip ?_
                      first | rw [sp2_pos (by omega)] | rw [sp2_neg (by omega)]
                      refine ⟨(), [0], ?_⟩
                      exact leqW17
                · rintro ⟨⟩
                  have hs1 := sp1_size i (atI l (a + 1 + i) 24) (textN l a i)
                  have hs2 := sp2_size (atI l (a + 1 + i) 24) (sp1 i (atI l (a + 1 + i) 24) (textN l a i))
                  have ht0 : 0 ≤ (atI l (a + 1 + i) 24).tmod 20 := Int.tmod_nonneg _ (by omega)
                  have ht1 : (atI l (a + 1 + i) 24).tmod 20 < 20 := Int.tmod_lt_of_pos _ (by decide)
                  have hwl : wordL.length = 20 := rfl
                  have hix : ((atI l (a + 1 + i) 24).tmod 20).toNat < wordL.length := by omega
                  have hws := wordL_size ((atI l (a + 1 + i) 24).tmod 20).toNat
                  refine rZ [0, 1, 5, 6, 7, 8] (fun P S K => XvBinOV P .rem 3 (.const (.int .i64 20)) (S.get 9) (.atom (.int .i64 20)) (fun r3 _ => XvIndexAddr P 25 (S.get 5) r3 (fun r4 _ => XvLoad P 9 (M S.hp S.nx) r4 (fun r5 _ => XvBinOV P .add 9 (.tmp 42) (S.get 6) r5 (fun r6 _ => K ⟨[(0, S.get 0), (1, S.get 1), (5, S.get 5), (6, r6), (7, S.get 7), (8, S.get 8)], S.hp, S.nx, S.gh⟩))))) fun K hK => ?_
                  repeat' (first | (refine hK _ ?_; clear hK K) | ((first | refine xG_intro (fun hg => ?_) (fun hg => ?_) | refine fun (hg : (_ : Prop)) => ?_) <;> ((try simp only [BQ] at hg); try (exfalso; omega))) | refine And.intro ?_ ?_ | exact cl | refine one_take ?_ _ | refine one_drop ?_ _ | (refine st ?_; try simp only [spS, hwl, getD_encS hix]) | simp only [spS, hwl, getD_encS hix])
                  all_goals try simp (disch := omega) only [wrap_id, wrap8_id]
                  all_goals
                   refine rZ [0, 1, 5, 6, 7, 8] (fun P S K => XvBinOV P .add 3 (.const (.int .i64 1)) (S.get 8) (.atom (.int .i64 1)) (fun r1 _ => K ⟨[(0, S.get 0), (1, S.get 1), (5, S.get 5), (6, S.get 6), (7, S.get 7), (8, r1)], S.hp, S.nx, S.gh⟩)) fun K hK => ?_
                   repeat' (first | (refine hK _ ?_; clear hK K) | ((first | refine xG_intro (fun hg => ?_) (fun hg => ?_) | refine fun (hg : (_ : Prop)) => ?_) <;> ((try simp only [BQ] at hg); try (exfalso; omega))) | refine And.intro ?_ ?_ | exact cl | refine one_take ?_ _ | refine one_drop ?_ _ | (refine st ?_; try simp only [spS]) | simp only [spS])
                   all_goals try simp (disch := omega) only [wrap_id, wrap8_id]
                   all_goals
                    refine ⟨⟨i + 1, by omega⟩, [0], by dsimp only; omega, ?_⟩
                    exact leqW17
          · try (cases h16; done)
            all_goals (try simp only [CQ] at h16)
            all_goals
             refine Tri.exit ?_
             refine sZ [4] (fun P S K => K ⟨[(4, (S.get 6))], S.hp, S.nx, S.gh⟩) fun K hK => ?_
             repeat' (first | (refine hK _ ?_; clear hK K) | ((first | refine xG_intro (fun hg => ?_) (fun hg => ?_) | refine fun (hg : (_ : Prop)) => ?_) <;> ((try simp only [BQ] at hg); try (exfalso; omega))) | refine And.intro ?_ ?_ | exact cl | refine one_take ?_ _ | refine one_drop ?_ _ | (refine st ?_; try simp only [spS]) | simp only [spS])
             all_goals try simp (disch := omega) only [wrap_id, wrap8_id]
             all_goals
              refine Tri.ret ?_
              show ResOk _ _ _ _
              have hin : (atI l a 5).toNat = i := by omega
              exact ResOk.val (aS (by unfold textS; rw [hin])) rfl
end Go.Proofs.YtfnkciboencifaaDoor
