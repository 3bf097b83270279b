/-
  Walks: the reference model of collations: what is valid.
-/
import Derived.Test.YtfnkciboencifaaDoorOW1
import Derived.Test.YtfnkciboencifaaDoorOCnt
set_option linter.all false
namespace Go.Proofs.YtfnkciboencifaaDoor
open Go Go.RowKit
set_option linter.unusedSimpArgs false
set_option linter.unusedVariables false
set_option maxRecDepth 20000
theorem leqW2 {p : Prop} (h : p := by (refine ⟨4, ?_, ?_, rfl, by simp, rfl, fun _ h _ => absurd h (Nat.not_lt_zero _)⟩ <;> (simp only [List.forall_mem_cons]; repeat' (first | refine And.intro ?_ ?_ | (intro p hp; exact absurd hp List.not_mem_nil) | rfl | exact sp (pure_spec _) | exact (sealed_pure _ _ _ (pure_ints _)).trans (ren_ints _ _).symm | exact (sealed_pure _ _ _ (pure_strs _)).trans (ren_strs _ _).symm | exact sp (by assumption) | (intro o ho; cases ho; refine ⟨by decide, ?_⟩; first | (refine LeqS.row rfl ?_ ?_; (next => (first | rfl | (simp only [List.map_append, List.map_cons, List.map_nil, List.append_nil, List.nil_append, List.append_assoc, List.cons_append, encI, encS, ints, strs]; done) | (simp [encI, encS, ints, strs]; done))); (next => (first | rfl | exact pureL_encI _ | exact pureL_encS _ | exact pureL_ints _ | exact pureL_strs _ | (simp [pureL_append, pureL_encI, pureL_encS, pureL_ints, pureL_strs, pureL, PV.pure, pure_ints, pure_strs, pure_spec]; done))); done) | refine ⟨_, rfl, rfl, ?_⟩) | (simp [St.born, St.known, retV, St.get, St.obj, lk, sealed, PV.ren, renL, rmap, AO.ren, ints, strs, encI, encS, map_sealed_encI, map_sealed_encS, map_sealed_ints, map_sealed_strs, map_ren_encI, map_ren_encS, map_ren_ints, map_ren_strs, renL_encI, renL_encS, renL_ints, renL_strs, ren_spec] <;> omega))))) : p := h
theorem lsrW2 {p : Prop} (h : p := by (first | rfl | (simp [St.born, St.known, retV, St.get, St.obj, lk, sealed, PV.ren, renL, rmap, AO.ren, ints, strs, encI, encS, map_sealed_encI, map_sealed_encS, map_sealed_ints, map_sealed_strs, map_ren_encI, map_ren_encS, map_ren_ints, map_ren_strs, renL_encI, renL_encS, renL_ints, renL_strs, ren_spec]; done))) : p := h
theorem lpvW2 {p : Prop} (h : p := by (first | rfl | (simp [pure_ints, pure_strs, PV.pure, pureL, pureL_encI, pureL_encS, pureL_ints, pureL_strs, pure_spec]; done))) : p := h
noncomputable def tB (p : Prop) : Bool := @decide p (Classical.propDecidable p)
theorem tB_yes {p : Prop} (h : p) : tB p = true := by unfold tB; exact @decide_eq_true p (Classical.propDecidable p) h
theorem tB_no {p : Prop} (h : ¬ p) : tB p = false := by unfold tB; exact @decide_eq_false p (Classical.propDecidable p) h
theorem tB_iff {p : Prop} : tB p = true ↔ p := ⟨fun h => Classical.byContradiction fun hn => (by rw [tB_no hn] at h; cases h), tB_yes⟩
theorem tB_not {p : Prop} : tB p = false ↔ ¬ p := ⟨fun h hp => (by rw [tB_yes hp] at h; cases h), tB_no⟩
noncomputable def tI {α : Type} (p : Prop) (a b : α) : α := if tB p then a else b
theorem tI_yes {α : Type} {p : Prop} {a b : α} (h : p) : tI p a b = a := by unfold tI; rw [tB_yes h]; rfl
theorem tI_no {α : Type} {p : Prop} {a b : α} (h : ¬ p) : tI p a b = b := by unfold tI; rw [tB_no h]; rfl
def encB (c : UInt8) : PV := .atom (.int .u8 (c.toNat : Nat))
structure SpecD where
  words : Bool
  skip : List ByteArray
  numbers : Bool
  order : List ByteArray
def encSpec (s : SpecD) : PV := .agg [.atom (.bool s.words), strs s.skip, .atom (.bool s.numbers), strs s.order]
theorem pure_spec (s : SpecD) : (encSpec s).pure = true := by simp [encSpec, PV.pure, pureL, pure_strs]
theorem ren_spec (ρ : Nat → Nat) (s : SpecD) : (encSpec s).ren ρ = encSpec s := ren_pure ρ _ (pure_spec s)
structure Sane (s : SpecD) : Prop where
  skip : s.skip.length ≤ 1000000000
  order : s.order.length ≤ 1000000000
  skips : ∀ x, x ∈ s.skip → x.size ≤ 4294967296
  orders : ∀ x, x ∈ s.order → x.size ≤ 4294967296
theorem Sane.sk {s : SpecD} (h : Sane s) {k : Nat} (hk : k < s.skip.length) : (ls s.skip k).size ≤ 4294967296 := h.skips _ (ls_mem hk)
theorem Sane.od {s : SpecD} (h : Sane s) {k : Nat} (hk : k < s.order.length) : (ls s.order k).size ≤ 4294967296 := h.orders _ (ls_mem hk)
def isDig (c : UInt8) : Bool := decide (48 ≤ c.toNat ∧ c.toNat ≤ 57)
theorem rdigit_pure (c : UInt8) : Pure Tryd.prog 88 [encB c] (.atom (.bool (isDig c))) [] := by
  refine Pure.intro (ts := [2]) Tryd.func88 (by kernel_rfl) rfl rfl rfl (Nat.le_of_ble_eq_true rfl) ?_ ?_
  · simp [encB, PV.pure]
  refine sY [0] (fun P S K => K ⟨[(0, S.get 0)], S.hp, S.nx, S.gh⟩) ?_
  all_goals
  refine sZ [2] (fun P S K => XvBinOV P .geq 5 (.const (.int .u8 48)) (S.get 0) (.atom (.int .u8 48)) (fun r1 _ => Xgq r1 true (fun k => k (S.get 0)) (fun g3 r3 => Xgq g3 true (fun k => XvBinOV P .leq 5 (.const (.int .u8 57)) r3 (.atom (.int .u8 57)) (fun r4 _ => k r4)) (fun g4 r4 => XvPick g4 r4 (.atom (.bool false)) (fun r5 _ => K ⟨[(2, r5)], S.hp, S.nx, S.gh⟩))))) fun K hK => ?_
  repeat' (first | (refine hK _ ?_; clear hK K) | ((first | refine xG_intro (fun hg => ?_) (fun hg => ?_) | refine fun (hg : (_ : Prop)) => ?_) <;> ((try simp only [BQ] at hg); try (exfalso; omega))) | refine And.intro ?_ ?_ | exact cl | refine one_take ?_ _ | refine one_drop ?_ _ | (refine st ?_; try simp only [encB]) | simp only [encB])
  all_goals
  refine Tri.ret ?_
  show ResOk _ _ _ _
  exact ResOk.val (aB (by unfold isDig; first | (rw [Bool.eq_iff_iff, decide_eq_true_eq, decide_eq_true_eq]; omega) | (symm; rw [decide_eq_false_iff_not]; omega))) rfl
def SmallP (w : ByteArray) : Prop := 0 < w.size ∧ w.size ≤ 24 ∧ ∀ i, i < w.size → 97 ≤ (byteAt w i).toNat ∧ (byteAt w i).toNat ≤ 122
theorem rsmall_pure (w : ByteArray) (hw : w.size ≤ 4294967296) : Pure Tryd.prog 43 [encS w] (.atom (.bool (tB (SmallP w)))) [] := by
  refine Pure.intro (ts := [2]) Tryd.func43 (by kernel_rfl) rfl rfl rfl (Nat.le_of_ble_eq_true rfl) ?_ ?_
  · simp [pure_ints, pure_strs, encI, encS, PV.pure, pureL]
  refine sY [0] (fun P S K => K ⟨[(0, S.get 0)], S.hp, S.nx, S.gh⟩) ?_
  all_goals
  refine Tri.seq ?_
  refine sY [0, 3] (fun P S K => K ⟨[(0, S.get 0), (3, (.atom (.int .i64 0)))], S.hp, S.nx, S.gh⟩) ?_
  all_goals
  refine Tri.block ?_
  refine Tri.loop (α := (k : Nat) ×' (k ≤ w.size ∧ ∀ i, i < k → 97 ≤ (byteAt w i).toNat ∧ (byteAt w i).toNat ≤ 122)) (fun z => (fun (k : Nat) => (⟨[(0, encS w), (3, encI k)], [], 0, []⟩ : St)) z.1) (fun z => (fun (k : Nat) => w.size - k) z.1) ⟨0, ⟨by omega, by omega⟩⟩ [] ?_ ?_
  ·exact leqW2
  ·rintro ⟨k, ⟨hk, hkj⟩⟩
   refine Tri.seq ?_
   refine sY [0, 3, 7] (fun P S K => XvLen P 9 (S.get 0) (fun r2 _ => XvBinOV P .lss 3 (.tmp 6) (S.get 3) r2 (fun r3 _ => K ⟨[(0, S.get 0), (3, S.get 3), (7, r3)], S.hp, S.nx, S.gh⟩))) ?_
   all_goals
   refine Tri.cond rfl (fun h7 => ?_) (fun h7 => ?_)
   ·try (cases h7; done)
    all_goals (try simp only [CQ] at h7)
    all_goals
    refine Tri.skip ?_
    refine Tri.seq ?_
    refine Tri.block ?_
    refine sZ [0, 3, 19] (fun P S K => XvIndex P 9 (S.get 0) (S.get 3) (fun r2 _ => XvBinOV P .lss 5 (.const (.int .u8 97)) r2 (.atom (.int .u8 97)) (fun r3 _ => Xgq r3 false (fun k => k (S.get 0)) (fun g5 r5 => Xgq g5 false (fun k => k (S.get 3)) (fun g6 r6 => Xgq g6 false (fun k => XvIndex P 9 r5 r6 (fun r7 _ => k r7)) (fun g7 r7 => Xgq g7 false (fun k => XvBinOV P .gtr 5 (.const (.int .u8 122)) r7 (.atom (.int .u8 122)) (fun r8 _ => k r8)) (fun g8 r8 => XvPick g8 (.atom (.bool true)) r8 (fun r9 _ => K ⟨[(0, S.get 0), (3, S.get 3), (19, r9)], S.hp, S.nx, S.gh⟩)))))))) fun K hK => ?_
    repeat' (first | (refine hK _ ?_; clear hK K) | ((first | refine xG_intro (fun hg => ?_) (fun hg => ?_) | refine fun (hg : (_ : Prop)) => ?_) <;> ((try simp only [BQ] at hg); try (exfalso; omega))) | refine And.intro ?_ ?_ | exact cl | refine one_take ?_ _ | refine one_drop ?_ _ | refine st ?_)
    all_goals
    refine Tri.cond rfl (fun h19 => ?_) (fun h19 => ?_)
    ·try (cases h19; done)
     all_goals (try simp only [CQ] at h19)
     all_goals
     refine sY [2] (fun P S K => K ⟨[(2, (.atom (.bool false)))], S.hp, S.nx, S.gh⟩) ?_
     all_goals
     refine Tri.ret ?_
     show ResOk _ _ _ _
     exact ResOk.val (aB (tB_no (fun h => by have := h.2.2 k (by omega); omega)).symm) rfl
    ·try (cases h19; done)
     all_goals (try simp only [CQ] at h19)
     all_goals
     refine Tri.skip ?_
     refine rY [0, 3] (fun P S K => XvBinOV P .add 3 (.const (.int .i64 1)) (S.get 3) (.atom (.int .i64 1)) (fun r1 _ => K ⟨[(0, S.get 0), (3, r1)], S.hp, S.nx, S.gh⟩)) ?_
     all_goals try simp (disch := omega) only [wrap_id, wrap8_id]
     all_goals
     refine ⟨⟨k + 1, by omega, fun j hj => ?_⟩, [], by dsimp only; omega, ?_⟩
     · rcases Nat.lt_succ_iff_lt_or_eq.1 hj with hj | rfl
       · exact hkj j hj
       · omega
     · exact leqW2
   ·try (cases h7; done)
    all_goals (try simp only [CQ] at h7)
    all_goals
    refine Tri.exit ?_
    refine sZ [2] (fun P S K => XvLen P 9 (S.get 0) (fun r1 _ => XvBinOV P .gtr 3 (.const (.int .i64 0)) r1 (.atom (.int .i64 0)) (fun r2 _ => Xgq r2 true (fun k => k (S.get 0)) (fun g4 r4 => Xgq g4 true (fun k => XvLen P 9 r4 (fun r5 _ => k r5)) (fun g5 r5 => Xgq g5 true (fun k => XvBinOV P .leq 3 (.const (.int .i64 24)) r5 (.atom (.int .i64 24)) (fun r6 _ => k r6)) (fun g6 r6 => XvPick g6 r6 (.atom (.bool false)) (fun r7 _ => K ⟨[(2, r7)], S.hp, S.nx, S.gh⟩))))))) fun K hK => ?_
    repeat' (first | (refine hK _ ?_; clear hK K) | ((first | refine xG_intro (fun hg => ?_) (fun hg => ?_) | refine fun (hg : (_ : Prop)) => ?_) <;> ((try simp only [BQ] at hg); try (exfalso; omega))) | refine And.intro ?_ ?_ | exact cl | refine one_take ?_ _ | refine one_drop ?_ _ | refine st ?_)
    all_goals
    refine Tri.ret ?_
    show ResOk _ _ _ _
    refine ResOk.val (aB ?_) rfl
    rw [Bool.eq_iff_iff, tB_iff]
    simp only [decide_eq_true_eq, Bool.false_eq_true]
    constructor
    · intro h
      first | exact h.elim | exact ⟨by omega, by omega, fun i hi => hkj i (by omega)⟩
    · intro h; have := h.1; have := h.2.1; omega
def AtP (s : SpecD) (c : UInt8) (g i : Nat) : Prop := g < s.order.length ∧ i < (ls s.order g).size ∧ byteAt (ls s.order g) i = c
def FirstP (s : SpecD) (c : UInt8) (g i : Nat) : Prop := AtP s c g i ∧ ∀ g' i', AtP s c g' i' → g < g' ∨ (g = g' ∧ i ≤ i')
open Classical in
noncomputable def grp (s : SpecD) (c : UInt8) : Int × Int := if h : ∃ p : Nat × Nat, FirstP s c p.1 p.2 then (((Classical.choose h).1 : Nat), ((Classical.choose h).2 : Nat)) else (-1, -1)
open Classical in
theorem grp_first {s : SpecD} {c : UInt8} {g i : Nat} (h : FirstP s c g i) : grp s c = ((g : Int), (i : Int)) := by
  have hx : ∃ p : Nat × Nat, FirstP s c p.1 p.2 := ⟨(g, i), h⟩
  unfold grp
  rw [dif_pos hx]
  have h2 := Classical.choose_spec hx
  have a := h.2 _ _ h2.1
  have b := h2.2 _ _ h.1
  have e1 : (Classical.choose hx).1 = g := by omega
  have e2 : (Classical.choose hx).2 = i := by omega
  rw [e1, e2]
open Classical in
theorem grp_none {s : SpecD} {c : UInt8} (h : ∀ g i, ¬ AtP s c g i) : grp s c = (-1, -1) := by
  unfold grp
  rw [dif_neg]
  rintro ⟨p, hp⟩
  exact h _ _ hp.1
theorem u8_eq {a b : UInt8} (h : (a.toNat : Int) = (b.toNat : Int)) : a = b := UInt8.toNat_inj.1 (by omega)
theorem Group_pure (s : SpecD) (c : UInt8) (hs : Sane s) : Pure Tryd.prog 44 [encSpec s, encB c] (.tup [encI (grp s c).1, encI (grp s c).2]) [] := by
  have hso := hs.order
  refine Pure.intro (ts := [4, 5]) Tryd.func44 (by kernel_rfl) rfl rfl rfl (Nat.le_of_ble_eq_true rfl) ?_ ?_
  · simp [encB, encSpec, PV.pure, pureL, pure_strs]
  refine sZ [1, 2] (fun P S K => XvBox S.nx (S.get 0) (fun r0 e0 => K ⟨[(1, S.get 1), (2, r0)], (Eff.hp e0 S.nx S.hp), (S.nx + e0.add.length), S.gh⟩)) fun K hK => ?_
  repeat' (first | (refine hK _ ?_; clear hK K) | ((first | refine xG_intro (fun hg => ?_) (fun hg => ?_) | refine fun (hg : (_ : Prop)) => ?_) <;> ((try simp only [BQ] at hg); try (exfalso; omega))) | refine And.intro ?_ ?_ | exact cl | refine one_take ?_ _ | refine one_drop ?_ _ | (refine st ?_; try simp only [encB, encSpec]) | simp only [encB, encSpec])
  all_goals
  refine Tri.seq ?_
  refine sY [1, 2, 6] (fun P S K => K ⟨[(1, S.get 1), (2, S.get 2), (6, (.atom (.int .i64 0)))], S.hp, S.nx, S.gh⟩) ?_
  all_goals
  refine Tri.block ?_
  refine Tri.loop (α := (g : Nat) ×' (g ≤ s.order.length ∧ ∀ g' i', g' < g → ¬ AtP s c g' i')) (fun z => (fun (g : Nat) => (⟨[(1, encB c), (2, .ptr 0 4 0 0), (6, encI g)], [(0, some ⟨4, [encSpec s]⟩)], 1, []⟩ : St)) z.1) (fun z => (fun (g : Nat) => s.order.length - g) z.1) ⟨0, ⟨by omega, by omega⟩⟩ [0] ?_ ?_
  ·exact leqW2
  ·rintro ⟨g, ⟨hg, hb⟩⟩
   refine Tri.seq ?_
   refine sZ [1, 2, 6, 12] (fun P S K => XvFieldAddr P 35 3 (S.get 2) (fun r1 _ => XvLoad P 25 (M S.hp S.nx) r1 (fun r2 _ => XvLen P 25 r2 (fun r3 _ => XvBinOV P .lss 3 (.tmp 11) (S.get 6) r3 (fun r4 _ => K ⟨[(1, S.get 1), (2, S.get 2), (6, S.get 6), (12, r4)], S.hp, S.nx, S.gh⟩))))) fun K hK => ?_
   repeat' (first | (refine hK _ ?_; clear hK K) | ((first | refine xG_intro (fun hg => ?_) (fun hg => ?_) | refine fun (hg : (_ : Prop)) => ?_) <;> ((try simp only [BQ] at hg); try (exfalso; omega))) | refine And.intro ?_ ?_ | exact cl | refine one_take ?_ _ | refine one_drop ?_ _ | (refine st ?_; try simp only [encB, encSpec]) | simp only [encB, encSpec])
   all_goals
   refine Tri.cond rfl (fun h12 => ?_) (fun h12 => ?_)
   ·try (cases h12; done)
    all_goals (try simp only [CQ] at h12)
    all_goals
    refine Tri.skip ?_
    refine Tri.seq ?_
    refine Tri.block ?_
    refine sY [1, 2, 6, 7] (fun P S K => K ⟨[(1, S.get 1), (2, S.get 2), (6, S.get 6), (7, (.atom (.int .i64 0)))], S.hp, S.nx, S.gh⟩) ?_
    all_goals
    refine Tri.block ?_
    refine Tri.loop (α := (i : Nat) ×' (i ≤ (ls s.order g).size ∧ ∀ i', i' < i → ¬ AtP s c g i')) (fun z => (fun (i : Nat) => (⟨[(1, encB c), (2, .ptr 0 4 0 0), (6, encI g), (7, encI i)], [(0, some ⟨4, [encSpec s]⟩)], 1, []⟩ : St)) z.1) (fun z => (fun (i : Nat) => (ls s.order g).size - i) z.1) ⟨0, ⟨by omega, by omega⟩⟩ [0] ?_ ?_
    ·exact leqW2
    ·rintro ⟨i, ⟨hi, hbi⟩⟩
     refine Tri.seq ?_
     have hgl : g < s.order.length := by omega
     have hgs := hs.od hgl
     refine sZ [1, 2, 6, 7, 22] (fun P S K => XvFieldAddr P 35 3 (S.get 2) (fun r1 _ => XvLoad P 25 (M S.hp S.nx) r1 (fun r2 _ => XvIndexAddr P 25 r2 (S.get 6) (fun r4 _ => XvLoad P 9 (M S.hp S.nx) r4 (fun r5 _ => XvLen P 9 r5 (fun r6 _ => XvBinOV P .lss 3 (.tmp 21) (S.get 7) r6 (fun r7 _ => K ⟨[(1, S.get 1), (2, S.get 2), (6, S.get 6), (7, S.get 7), (22, r7)], S.hp, S.nx, S.gh⟩))))))) fun K hK => ?_
     repeat' (first | (refine hK _ ?_; clear hK K) | ((first | refine xG_intro (fun hg => ?_) (fun hg => ?_) | refine fun (hg : (_ : Prop)) => ?_) <;> ((try simp only [BQ] at hg); try (exfalso; omega))) | refine And.intro ?_ ?_ | exact cl | refine one_take ?_ _ | refine one_drop ?_ _ | (refine st ?_; try simp only [encB, encSpec, getD_encS hgl]) | simp only [encB, encSpec, getD_encS hgl])
     all_goals
     refine Tri.cond rfl (fun h22 => ?_) (fun h22 => ?_)
     ·try (cases h22; done)
      all_goals (try simp only [CQ] at h22)
      all_goals
      refine Tri.skip ?_
      refine Tri.seq ?_
      refine Tri.block ?_
      refine sZ [1, 2, 6, 7, 33] (fun P S K => XvFieldAddr P 35 3 (S.get 2) (fun r0 _ => XvLoad P 25 (M S.hp S.nx) r0 (fun r1 _ => XvIndexAddr P 25 r1 (S.get 6) (fun r3 _ => XvLoad P 9 (M S.hp S.nx) r3 (fun r4 _ => XvIndex P 9 r4 (S.get 7) (fun r6 _ => XvBinOV P .eql 5 (.tmp 32) r6 (S.get 1) (fun r8 _ => K ⟨[(1, S.get 1), (2, S.get 2), (6, S.get 6), (7, S.get 7), (33, r8)], S.hp, S.nx, S.gh⟩))))))) fun K hK => ?_
      repeat' (first | (refine hK _ ?_; clear hK K) | ((first | refine xG_intro (fun hg => ?_) (fun hg => ?_) | refine fun (hg : (_ : Prop)) => ?_) <;> ((try simp only [BQ] at hg); try (exfalso; omega))) | refine And.intro ?_ ?_ | exact cl | refine one_take ?_ _ | refine one_drop ?_ _ | (refine st ?_; try simp only [encB, encSpec, getD_encS hgl]) | simp only [encB, encSpec, getD_encS hgl])
      all_goals
      refine Tri.cond rfl (fun h33 => ?_) (fun h33 => ?_)
      ·try (cases h33; done)
       all_goals (try simp only [CQ] at h33)
       all_goals
       refine sY [4, 5] (fun P S K => K ⟨[(4, (S.get 6)), (5, (S.get 7))], S.hp, S.nx, S.gh⟩) ?_
       all_goals
       refine Tri.ret ?_
       show ResOk _ _ _ _
       have hF : FirstP s c g i := ⟨⟨hgl, by omega, u8_eq h33⟩, fun g' i' h' => by
         rcases Nat.lt_trichotomy g' g with h1 | rfl | h1
         · exact absurd h' (hb g' i' h1)
         · exact .inr ⟨rfl, Nat.le_of_not_lt fun h2 => hbi i' h2 h'⟩
         · exact .inl h1⟩
       rw [grp_first hF]
       exact ResOk.val lsrW2 lpvW2
      ·try (cases h33; done)
       all_goals (try simp only [CQ] at h33)
       all_goals
       refine Tri.skip ?_
       refine rY [1, 2, 6, 7] (fun P S K => XvBinOV P .add 3 (.const (.int .i64 1)) (S.get 7) (.atom (.int .i64 1)) (fun r1 _ => K ⟨[(1, S.get 1), (2, S.get 2), (6, S.get 6), (7, r1)], S.hp, S.nx, S.gh⟩)) ?_
       all_goals try simp (disch := omega) only [wrap_id, wrap8_id]
       all_goals
       refine ⟨⟨i + 1, by omega, fun j hj => ?_⟩, [0], by dsimp only; omega, ?_⟩
       · rcases Nat.lt_succ_iff_lt_or_eq.1 hj with hj | rfl
         · exact hbi j hj
         · intro h'; exact h33 (by rw [h'.2.2])
       · exact leqW2
     ·try (cases h22; done)
      all_goals (try simp only [CQ] at h22)
      all_goals
      refine Tri.exit ?_
      refine rY [1, 2, 6] (fun P S K => XvBinOV P .add 3 (.const (.int .i64 1)) (S.get 6) (.atom (.int .i64 1)) (fun r1 _ => K ⟨[(1, S.get 1), (2, S.get 2), (6, r1)], S.hp, S.nx, S.gh⟩)) ?_
      all_goals try simp (disch := omega) only [wrap_id, wrap8_id]
      all_goals
      refine ⟨⟨g + 1, by omega, fun g' i' hj => ?_⟩, [0], by dsimp only; omega, ?_⟩
      · rcases Nat.lt_succ_iff_lt_or_eq.1 hj with hj | rfl
        · exact hb g' i' hj
        · intro h'; exact hbi i' (by have := h'.2.1; omega) h'
      · exact leqW2
   ·try (cases h12; done)
    all_goals (try simp only [CQ] at h12)
    all_goals
    refine Tri.exit ?_
    refine sY [4, 5] (fun P S K => K ⟨[(4, (.atom (.int .i64 (-1)))), (5, (.atom (.int .i64 (-1))))], S.hp, S.nx, S.gh⟩) ?_
    all_goals
    refine Tri.ret ?_
    show ResOk _ _ _ _
    rw [grp_none (fun g' i' h' => hb g' i' (by have := h'.1; omega) h')]
    exact ResOk.val lsrW2 lpvW2
end Go.Proofs.YtfnkciboencifaaDoor
set_option linter.all false
namespace Go.Proofs.YtfnkciboencifaaDoor
open Go Go.RowKit
set_option linter.unusedSimpArgs false
set_option linter.unusedVariables false
set_option maxRecDepth 20000
theorem leqW3 {p : Prop} (h : p := by (refine ⟨4, ?_, ?_, rfl, by simp, rfl, fun _ h _ => absurd h (Nat.not_lt_zero _)⟩ <;> (simp only [List.forall_mem_cons]; repeat' (first | refine And.intro ?_ ?_ | (intro p hp; exact absurd hp List.not_mem_nil) | rfl | exact sp (pure_spec _) | exact (sealed_pure _ _ _ (pure_ints _)).trans (ren_ints _ _).symm | exact (sealed_pure _ _ _ (pure_strs _)).trans (ren_strs _ _).symm | exact sp (by assumption) | (intro o ho; cases ho; refine ⟨by decide, ?_⟩; first | (refine LeqS.row rfl ?_ ?_; (next => (first | rfl | (simp only [List.map_append, List.map_cons, List.map_nil, List.append_nil, List.nil_append, List.append_assoc, List.cons_append, encI, encS, ints, strs]; done) | (simp [encI, encS, ints, strs]; done))); (next => (first | rfl | exact pureL_encI _ | exact pureL_encS _ | exact pureL_ints _ | exact pureL_strs _ | (simp [pureL_append, pureL_encI, pureL_encS, pureL_ints, pureL_strs, pureL, PV.pure, pure_ints, pure_strs, pure_spec]; done))); done) | refine ⟨_, rfl, rfl, ?_⟩) | (simp [St.born, St.known, retV, St.get, St.obj, lk, sealed, PV.ren, renL, rmap, AO.ren, ints, strs, encI, encS, map_sealed_encI, map_sealed_encS, map_sealed_ints, map_sealed_strs, map_ren_encI, map_ren_encS, map_ren_ints, map_ren_strs, renL_encI, renL_encS, renL_ints, renL_strs, ren_spec] <;> omega))))) : p := h
def BadSkip (s : SpecD) : Prop := ∃ k, k < s.skip.length ∧ ¬ SmallP (ls s.skip k)
def BadByte (c : UInt8) : Prop := c.toNat < 33 ∨ 126 < c.toNat
def BadGroup (s : SpecD) (g : Nat) : Prop := (ls s.order g).size = 0 ∨ ∃ i, i < (ls s.order g).size ∧ BadByte (byteAt (ls s.order g) i)
def BadOrder (s : SpecD) : Prop := ∃ g, g < s.order.length ∧ BadGroup s g
def TwiceAt (s : SpecD) (g i : Nat) : Prop := ¬ ((grp s (byteAt (ls s.order g) i)).1 = g ∧ (grp s (byteAt (ls s.order g) i)).2 = i)
def Twice (s : SpecD) : Prop := ∃ g i, g < s.order.length ∧ i < (ls s.order g).size ∧ TwiceAt s g i
noncomputable def validE (s : SpecD) : Int := tI (64 < s.order.length ∨ 16 < s.skip.length) 4 (tI (BadSkip s ∨ BadOrder s) 1 (tI (Twice s) 7 0))
theorem validE_limit {s : SpecD} (h : 64 < s.order.length ∨ 16 < s.skip.length) : validE s = 4 := tI_yes h
theorem validE_bad {s : SpecD} (h : ¬ (64 < s.order.length ∨ 16 < s.skip.length)) (hb : BadSkip s ∨ BadOrder s) : validE s = 1 := (tI_no h).trans (tI_yes hb)
theorem validE_twice {s : SpecD} (h : ¬ (64 < s.order.length ∨ 16 < s.skip.length)) (hb : ¬ (BadSkip s ∨ BadOrder s)) (ht : Twice s) : validE s = 7 := (tI_no h).trans ((tI_no hb).trans (tI_yes ht))
theorem validE_ok {s : SpecD} (h : ¬ (64 < s.order.length ∨ 16 < s.skip.length)) (hb : ¬ (BadSkip s ∨ BadOrder s)) (ht : ¬ Twice s) : validE s = 0 := (tI_no h).trans ((tI_no hb).trans (tI_no ht))
theorem validE_zero {s : SpecD} (h : validE s = 0) : ¬ (64 < s.order.length ∨ 16 < s.skip.length) ∧ ¬ (BadSkip s ∨ BadOrder s) ∧ ¬ Twice s := by
  refine ⟨fun h1 => ?_, fun h1 => ?_, fun h1 => ?_⟩
  · rw [validE_limit h1] at h; cases h
  · by_cases h0 : 64 < s.order.length ∨ 16 < s.skip.length
    · rw [validE_limit h0] at h; cases h
    · rw [validE_bad h0 h1] at h; cases h
  · by_cases h0 : 64 < s.order.length ∨ 16 < s.skip.length
    · rw [validE_limit h0] at h; cases h
    · by_cases h2 : BadSkip s ∨ BadOrder s
      · rw [validE_bad h0 h2] at h; cases h
      · rw [validE_twice h0 h2 h1] at h; cases h
def Before (s : SpecD) (g i : Nat) : Prop := ∀ g' i', (g' < g ∨ (g' = g ∧ i' < i)) → i' < (ls s.order g').size → ¬ TwiceAt s g' i'
def EI (s : SpecD) (e : Int) (g i : Nat) : Prop := (e = 7 ∧ Twice s) ∨ (e = 0 ∧ Before s g i)
theorem EI.next {s : SpecD} {e : Int} {g i : Nat} (h : EI s e g i) (h1 : ¬ TwiceAt s g i) : EI s e g (i + 1) := by
  rcases h with h | ⟨h, hb⟩
  · exact .inl h
  · refine .inr ⟨h, fun g' i' hx hi => ?_⟩
    rcases hx with hx | ⟨rfl, hx⟩
    · exact hb g' i' (.inl hx) hi
    · rcases Nat.lt_succ_iff_lt_or_eq.1 hx with hx | rfl
      · exact hb _ i' (.inr ⟨rfl, hx⟩) hi
      · exact h1
theorem EI.group {s : SpecD} {e : Int} {g i : Nat} (h : EI s e g i) (hi : (ls s.order g).size ≤ i) : EI s e (g + 1) 0 := by
  rcases h with h | ⟨h, hb⟩
  · exact .inl h
  · refine .inr ⟨h, fun g' i' hx hi2 => ?_⟩
    rcases hx with hx | ⟨rfl, hx⟩
    · rcases Nat.lt_succ_iff_lt_or_eq.1 hx with hx | rfl
      · exact hb g' i' (.inl hx) hi2
      · exact hb _ i' (.inr ⟨rfl, by omega⟩) hi2
    · omega
theorem EI.done {s : SpecD} {e : Int} {g : Nat} (h : EI s e g 0) (hg : s.order.length ≤ g) (h1 : ¬ (64 < s.order.length ∨ 16 < s.skip.length)) (h2 : ¬ (BadSkip s ∨ BadOrder s)) : e = validE s := by
  rcases h with ⟨rfl, ht⟩ | ⟨rfl, hb⟩
  · rw [validE_twice h1 h2 ht]
  · rw [validE_ok h1 h2]
    rintro ⟨g', i', a, b, c⟩
    exact hb g' i' (.inl (by omega)) b c
theorem rValid_pure (s : SpecD) (hs : Sane s) : Pure Tryd.prog 15 [encSpec s] (encI (validE s)) [] := by
  have hso := hs.order
  have hss := hs.skip
  refine Pure.intro (ts := [2]) Tryd.func15 (by kernel_rfl) rfl rfl rfl (Nat.le_of_ble_eq_true rfl) ?_ ?_
  · simp [encB, encSpec, PV.pure, pureL, pure_strs]
  refine sZ [1] (fun P S K => XvBox S.nx (S.get 0) (fun r0 e0 => K ⟨[(1, r0)], (Eff.hp e0 S.nx S.hp), (S.nx + e0.add.length), S.gh⟩)) fun K hK => ?_
  repeat' (first | (refine hK _ ?_; clear hK K) | ((first | refine xG_intro (fun hg => ?_) (fun hg => ?_) | refine fun (hg : (_ : Prop)) => ?_) <;> ((try simp only [BQ] at hg); try (exfalso; omega))) | refine And.intro ?_ ?_ | exact cl | refine one_take ?_ _ | refine one_drop ?_ _ | (refine st ?_; try simp only [encB, encSpec]) | simp only [encB, encSpec])
  all_goals
  refine Tri.seq ?_
  refine sZ [1, 19] (fun P S K => XvFieldAddr P 35 3 (S.get 1) (fun r0 _ => XvLoad P 25 (M S.hp S.nx) r0 (fun r1 _ => XvLen P 25 r1 (fun r2 _ => XvBinOV P .gtr 3 (.const (.int .i64 64)) r2 (.atom (.int .i64 64)) (fun r3 _ => Xgq r3 false (fun k => XvFieldAddr P 35 1 (S.get 1) (fun r5 _ => k r5)) (fun g5 r5 => Xgq g5 false (fun k => XvLoad P 25 (M S.hp S.nx) r5 (fun r6 _ => k r6)) (fun g6 r6 => Xgq g6 false (fun k => XvLen P 25 r6 (fun r7 _ => k r7)) (fun g7 r7 => Xgq g7 false (fun k => XvBinOV P .gtr 3 (.const (.int .i64 16)) r7 (.atom (.int .i64 16)) (fun r8 _ => k r8)) (fun g8 r8 => XvPick g8 (.atom (.bool true)) r8 (fun r9 _ => K ⟨[(1, S.get 1), (19, r9)], S.hp, S.nx, S.gh⟩)))))))))) fun K hK => ?_
  repeat' (first | (refine hK _ ?_; clear hK K) | ((first | refine xG_intro (fun hg => ?_) (fun hg => ?_) | refine fun (hg : (_ : Prop)) => ?_) <;> ((try simp only [BQ] at hg); try (exfalso; omega))) | refine And.intro ?_ ?_ | exact cl | refine one_take ?_ _ | refine one_drop ?_ _ | (refine st ?_; try simp only [encB, encSpec]) | simp only [encB, encSpec])
  all_goals
  refine Tri.cond rfl (fun h19 => ?_) (fun h19 => ?_)
  ·try (cases h19; done)
   all_goals (try simp only [CQ] at h19)
   all_goals
   refine sY [2] (fun P S K => K ⟨[(2, (.atom (.int .i64 4)))], S.hp, S.nx, S.gh⟩) ?_
   all_goals
   refine Tri.ret ?_
   show ResOk _ _ _ _
   exact ResOk.val (aI (validE_limit (by omega)).symm) rfl
  ·try (cases h19; done)
   all_goals (try simp only [CQ] at h19)
   all_goals
   refine Tri.skip ?_
   refine Tri.seq ?_
   have hlim : ¬ (64 < s.order.length ∨ 16 < s.skip.length) := by omega
   clear hg h19
   refine sY [1, 3] (fun P S K => K ⟨[(1, S.get 1), (3, (.atom (.int .i64 0)))], S.hp, S.nx, S.gh⟩) ?_
   all_goals
   refine Tri.block ?_
   refine Tri.loop (α := (k : Nat) ×' (k ≤ s.skip.length ∧ ∀ j, j < k → SmallP (ls s.skip j))) (fun z => (fun (k : Nat) => (⟨[(1, .ptr 0 4 0 0), (3, encI k)], [(0, some ⟨4, [encSpec s]⟩)], 1, []⟩ : St)) z.1) (fun z => (fun (k : Nat) => s.skip.length - k) z.1) ⟨0, ⟨by omega, by omega⟩⟩ [0] ?_ ?_
   ·exact leqW3
   ·rintro ⟨k, ⟨hk, hb⟩⟩
    refine Tri.seq ?_
    refine sZ [1, 3, 24] (fun P S K => XvFieldAddr P 35 1 (S.get 1) (fun r1 _ => XvLoad P 25 (M S.hp S.nx) r1 (fun r2 _ => XvLen P 25 r2 (fun r3 _ => XvBinOV P .lss 3 (.tmp 23) (S.get 3) r3 (fun r4 _ => K ⟨[(1, S.get 1), (3, S.get 3), (24, r4)], S.hp, S.nx, S.gh⟩))))) fun K hK => ?_
    repeat' (first | (refine hK _ ?_; clear hK K) | ((first | refine xG_intro (fun hg => ?_) (fun hg => ?_) | refine fun (hg : (_ : Prop)) => ?_) <;> ((try simp only [BQ] at hg); try (exfalso; omega))) | refine And.intro ?_ ?_ | exact cl | refine one_take ?_ _ | refine one_drop ?_ _ | (refine st ?_; try simp only [encB, encSpec]) | simp only [encB, encSpec])
    all_goals
    refine Tri.cond rfl (fun h24 => ?_) (fun h24 => ?_)
    ·try (cases h24; done)
     all_goals (try simp only [CQ] at h24)
     all_goals
     refine Tri.skip ?_
     refine Tri.seq ?_
     refine Tri.block ?_
     have hsl : k < s.skip.length := by omega
     refine sZ [1, 3, 33] (fun P S K => XvFieldAddr P 35 1 (S.get 1) (fun r0 _ => XvLoad P 25 (M S.hp S.nx) r0 (fun r1 _ => XvIndexAddr P 25 r1 (S.get 3) (fun r3 _ => XvLoad P 9 (M S.hp S.nx) r3 (fun r4 _ => XvFnIV P (M S.hp S.nx) (.fn 43 []) [r4] (fun r5 e5 => XvUn .not r5 (fun r6 _ => K ⟨[(1, S.get 1), (3, S.get 3), (33, r6)], (Eff.hp e5 S.nx S.hp), (S.nx + e5.add.length), S.gh⟩))))))) fun K hK => ?_
     repeat' (first | (refine hK _ ?_; clear hK K) | ((first | refine xG_intro (fun hg => ?_) (fun hg => ?_) | refine fun (hg : (_ : Prop)) => ?_) <;> ((try simp only [BQ] at hg); try (exfalso; omega))) | refine And.intro ?_ ?_ | exact cl | refine one_take ?_ _ | refine one_drop ?_ _ | refine .inl ⟨_, _, rsmall_pure _ (hs.sk hsl), ?_⟩ | refine ⟨_, _, rsmall_pure _ (hs.sk hsl), ?_⟩ | (refine st ?_; try simp only [encB, encSpec, getD_encS hsl]) | simp only [encB, encSpec, getD_encS hsl])
     all_goals try simp (disch := omega) only [wrap_id, wrap8_id]
     all_goals
     refine Tri.cond rfl (fun h33 => ?_) (fun h33 => ?_)
     ·try (cases h33; done)
      all_goals (try simp only [CQ] at h33)
      all_goals
      refine sY [2] (fun P S K => K ⟨[(2, (.atom (.int .i64 1)))], S.hp, S.nx, S.gh⟩) ?_
      all_goals
      refine Tri.ret ?_
      show ResOk _ _ _ _
      exact ResOk.val (aI (validE_bad hlim (.inl ⟨k, hsl, tB_not.1 h33⟩)).symm) rfl
     ·try (cases h33; done)
      all_goals (try simp only [CQ] at h33)
      all_goals
      refine Tri.skip ?_
      refine rY [1, 3] (fun P S K => XvBinOV P .add 3 (.const (.int .i64 1)) (S.get 3) (.atom (.int .i64 1)) (fun r1 _ => K ⟨[(1, S.get 1), (3, r1)], S.hp, S.nx, S.gh⟩)) ?_
      all_goals try simp (disch := omega) only [wrap_id, wrap8_id]
      all_goals
      refine ⟨⟨k + 1, by omega, fun j hj => ?_⟩, [0], by dsimp only; omega, ?_⟩
      · rcases Nat.lt_succ_iff_lt_or_eq.1 hj with hj | rfl
        · exact hb j hj
        · exact tB_iff.1 (by simpa using h33)
      · exact leqW3
    ·try (cases h24; done)
     all_goals (try simp only [CQ] at h24)
     all_goals
     refine Tri.exit ?_
     have hskip : ¬ BadSkip s := fun ⟨j, hj, h⟩ => h (hb j (by omega))
     refine sY [1, 4] (fun P S K => K ⟨[(1, S.get 1), (4, (.atom (.int .i64 0)))], S.hp, S.nx, S.gh⟩) ?_
     all_goals
     refine Tri.seq ?_
     refine sY [1, 4, 5] (fun P S K => K ⟨[(1, S.get 1), (4, S.get 4), (5, (.atom (.int .i64 0)))], S.hp, S.nx, S.gh⟩) ?_
     all_goals
     refine Tri.block ?_
     refine Tri.loop (α := (e : Int) ×' (g : Nat) ×' (g ≤ s.order.length ∧ (∀ g', g' < g → ¬ BadGroup s g') ∧ EI s e g 0)) (fun z => (fun (e : Int) (g : Nat) => (⟨[(1, .ptr 0 4 0 0), (4, encI e), (5, encI g)], [(0, some ⟨4, [encSpec s]⟩)], 1, []⟩ : St)) z.1 z.2.1) (fun z => (fun (e : Int) (g : Nat) => s.order.length - g) z.1 z.2.1) ⟨0, 0, ⟨by omega, by omega, .inr ⟨rfl, fun g' i' hx hi => by omega⟩⟩⟩ [0] ?_ ?_
     ·exact leqW3
     ·rintro ⟨e, g, ⟨hg, hbg, hE⟩⟩
      refine Tri.seq ?_
      refine sZ [1, 4, 5, 38] (fun P S K => XvFieldAddr P 35 3 (S.get 1) (fun r1 _ => XvLoad P 25 (M S.hp S.nx) r1 (fun r2 _ => XvLen P 25 r2 (fun r3 _ => XvBinOV P .lss 3 (.tmp 37) (S.get 5) r3 (fun r4 _ => K ⟨[(1, S.get 1), (4, S.get 4), (5, S.get 5), (38, r4)], S.hp, S.nx, S.gh⟩))))) fun K hK => ?_
      repeat' (first | (refine hK _ ?_; clear hK K) | ((first | refine xG_intro (fun hg => ?_) (fun hg => ?_) | refine fun (hg : (_ : Prop)) => ?_) <;> ((try simp only [BQ] at hg); try (exfalso; omega))) | refine And.intro ?_ ?_ | exact cl | refine one_take ?_ _ | refine one_drop ?_ _ | (refine st ?_; try simp only [encB, encSpec]) | simp only [encB, encSpec])
      all_goals
      refine Tri.cond rfl (fun h38 => ?_) (fun h38 => ?_)
      ·try (cases h38; done)
       all_goals (try simp only [CQ] at h38)
       all_goals
       refine Tri.skip ?_
       refine Tri.seq ?_
       refine Tri.block ?_
       refine Tri.seq ?_
       have hgl : g < s.order.length := by omega
       have hgs := hs.od hgl
       refine sZ [1, 4, 5, 47] (fun P S K => XvFieldAddr P 35 3 (S.get 1) (fun r0 _ => XvLoad P 25 (M S.hp S.nx) r0 (fun r1 _ => XvIndexAddr P 25 r1 (S.get 5) (fun r3 _ => XvLoad P 9 (M S.hp S.nx) r3 (fun r4 _ => XvLen P 9 r4 (fun r5 _ => XvBinOV P .eql 3 (.const (.int .i64 0)) r5 (.atom (.int .i64 0)) (fun r6 _ => K ⟨[(1, S.get 1), (4, S.get 4), (5, S.get 5), (47, r6)], S.hp, S.nx, S.gh⟩))))))) fun K hK => ?_
       repeat' (first | (refine hK _ ?_; clear hK K) | ((first | refine xG_intro (fun hg => ?_) (fun hg => ?_) | refine fun (hg : (_ : Prop)) => ?_) <;> ((try simp only [BQ] at hg); try (exfalso; omega))) | refine And.intro ?_ ?_ | exact cl | refine one_take ?_ _ | refine one_drop ?_ _ | (refine st ?_; try simp only [encB, encSpec, getD_encS hgl]) | simp only [encB, encSpec, getD_encS hgl])
       all_goals
       refine Tri.cond rfl (fun h47 => ?_) (fun h47 => ?_)
       ·try (cases h47; done)
        all_goals (try simp only [CQ] at h47)
        all_goals
        refine sY [2] (fun P S K => K ⟨[(2, (.atom (.int .i64 1)))], S.hp, S.nx, S.gh⟩) ?_
        all_goals
        refine Tri.ret ?_
        show ResOk _ _ _ _
        exact ResOk.val (aI (validE_bad hlim (.inr ⟨g, hgl, .inl (by omega)⟩)).symm) rfl
       ·try (cases h47; done)
        all_goals (try simp only [CQ] at h47)
        all_goals
        refine Tri.skip ?_
        refine sY [1, 4, 5, 6] (fun P S K => K ⟨[(1, S.get 1), (4, S.get 4), (5, S.get 5), (6, (.atom (.int .i64 0)))], S.hp, S.nx, S.gh⟩) ?_
        all_goals
        refine Tri.block ?_
        refine Tri.loop (α := (e : Int) ×' (i : Nat) ×' (i ≤ (ls s.order g).size ∧ (∀ i', i' < i → ¬ BadByte (byteAt (ls s.order g) i')) ∧ EI s e g i)) (fun z => (fun (e : Int) (i : Nat) => (⟨[(1, .ptr 0 4 0 0), (4, encI e), (5, encI g), (6, encI i)], [(0, some ⟨4, [encSpec s]⟩)], 1, []⟩ : St)) z.1 z.2.1) (fun z => (fun (e : Int) (i : Nat) => (ls s.order g).size - i) z.1 z.2.1) ⟨e, 0, ⟨by omega, by omega, hE⟩⟩ [0] ?_ ?_
        ·exact leqW3
        ·rintro ⟨e, i, ⟨hi, hbi, hE2⟩⟩
         refine Tri.seq ?_
         refine sZ [1, 4, 5, 6, 55] (fun P S K => XvFieldAddr P 35 3 (S.get 1) (fun r1 _ => XvLoad P 25 (M S.hp S.nx) r1 (fun r2 _ => XvIndexAddr P 25 r2 (S.get 5) (fun r4 _ => XvLoad P 9 (M S.hp S.nx) r4 (fun r5 _ => XvLen P 9 r5 (fun r6 _ => XvBinOV P .lss 3 (.tmp 54) (S.get 6) r6 (fun r7 _ => K ⟨[(1, S.get 1), (4, S.get 4), (5, S.get 5), (6, S.get 6), (55, r7)], S.hp, S.nx, S.gh⟩))))))) fun K hK => ?_
         repeat' (first | (refine hK _ ?_; clear hK K) | ((first | refine xG_intro (fun hg => ?_) (fun hg => ?_) | refine fun (hg : (_ : Prop)) => ?_) <;> ((try simp only [BQ] at hg); try (exfalso; omega))) | refine And.intro ?_ ?_ | exact cl | refine one_take ?_ _ | refine one_drop ?_ _ | (refine st ?_; try simp only [encB, encSpec, getD_encS hgl]) | simp only [encB, encSpec, getD_encS hgl])
         all_goals
         refine Tri.cond rfl (fun h55 => ?_) (fun h55 => ?_)
         ·try (cases h55; done)
          all_goals (try simp only [CQ] at h55)
          all_goals
          refine Tri.skip ?_
          refine Tri.seq ?_
          refine Tri.block ?_
          refine sZ [1, 4, 5, 6, 7] (fun P S K => XvFieldAddr P 35 3 (S.get 1) (fun r0 _ => XvLoad P 25 (M S.hp S.nx) r0 (fun r1 _ => XvIndexAddr P 25 r1 (S.get 5) (fun r3 _ => XvLoad P 9 (M S.hp S.nx) r3 (fun r4 _ => XvIndex P 9 r4 (S.get 6) (fun r6 _ => K ⟨[(1, S.get 1), (4, S.get 4), (5, S.get 5), (6, S.get 6), (7, r6)], S.hp, S.nx, S.gh⟩)))))) fun K hK => ?_
          repeat' (first | (refine hK _ ?_; clear hK K) | ((first | refine xG_intro (fun hg => ?_) (fun hg => ?_) | refine fun (hg : (_ : Prop)) => ?_) <;> ((try simp only [BQ] at hg); try (exfalso; omega))) | refine And.intro ?_ ?_ | exact cl | refine one_take ?_ _ | refine one_drop ?_ _ | (refine st ?_; try simp only [encB, encSpec, getD_encS hgl]) | simp only [encB, encSpec, getD_encS hgl])
          all_goals
          refine Tri.seq ?_
          refine sZ [1, 4, 5, 6, 7, 70] (fun P S K => XvBinOV P .lss 5 (.const (.int .u8 33)) (S.get 7) (.atom (.int .u8 33)) (fun r1 _ => Xgq r1 false (fun k => k (S.get 7)) (fun g3 r3 => Xgq g3 false (fun k => XvBinOV P .gtr 5 (.const (.int .u8 126)) r3 (.atom (.int .u8 126)) (fun r4 _ => k r4)) (fun g4 r4 => XvPick g4 (.atom (.bool true)) r4 (fun r5 _ => K ⟨[(1, S.get 1), (4, S.get 4), (5, S.get 5), (6, S.get 6), (7, S.get 7), (70, r5)], S.hp, S.nx, S.gh⟩))))) fun K hK => ?_
          repeat' (first | (refine hK _ ?_; clear hK K) | ((first | refine xG_intro (fun hg => ?_) (fun hg => ?_) | refine fun (hg : (_ : Prop)) => ?_) <;> ((try simp only [BQ] at hg); try (exfalso; omega))) | refine And.intro ?_ ?_ | exact cl | refine one_take ?_ _ | refine one_drop ?_ _ | (refine st ?_; try simp only [encB, encSpec]) | simp only [encB, encSpec])
          all_goals
          refine Tri.cond rfl (fun h70 => ?_) (fun h70 => ?_)
          ·try (cases h70; done)
           all_goals (try simp only [CQ] at h70)
           all_goals
           refine sY [2] (fun P S K => K ⟨[(2, (.atom (.int .i64 1)))], S.hp, S.nx, S.gh⟩) ?_
           all_goals
           refine Tri.ret ?_
           show ResOk _ _ _ _
           exact ResOk.val (aI (validE_bad hlim (.inr ⟨g, hgl, .inr ⟨i, by omega, by unfold BadByte; omega⟩⟩)).symm) rfl
          ·try (cases h70; done)
           all_goals (try simp only [CQ] at h70)
           all_goals
           refine Tri.skip ?_
           have hnb : ¬ BadByte (byteAt (ls s.order g) i) := by unfold BadByte; omega
           clear hg
           refine sZ [1, 4, 5, 6, 8, 9] (fun P S K => XvLoad P 35 (M S.hp S.nx) (S.get 1) (fun r0 _ => XvFnIV P (M S.hp S.nx) (.fn 44 []) [r0, (S.get 7)] (fun r2 e2 => XvExtract r2 0 (fun r4 _ => XvExtract r2 1 (fun r5 _ => K ⟨[(1, S.get 1), (4, S.get 4), (5, S.get 5), (6, S.get 6), (8, r4), (9, r5)], (Eff.hp e2 S.nx S.hp), (S.nx + e2.add.length), S.gh⟩))))) fun K hK => ?_
           repeat' (first | (refine hK _ ?_; clear hK K) | ((first | refine xG_intro (fun hg => ?_) (fun hg => ?_) | refine fun (hg : (_ : Prop)) => ?_) <;> ((try simp only [BQ] at hg); try (exfalso; omega))) | refine And.intro ?_ ?_ | exact cl | refine one_take ?_ _ | refine one_drop ?_ _ | refine .inl ⟨_, _, Group_pure s (byteAt (ls s.order g) i) hs, ?_⟩ | refine ⟨_, _, Group_pure s (byteAt (ls s.order g) i) hs, ?_⟩ | (refine st ?_; try simp only [encB, encSpec]) | simp only [encB, encSpec])
           all_goals
           refine sZ [1, 4, 5, 6, 84] (fun P S K => XvBinOV P .neq 3 (.tmp 78) (S.get 8) (S.get 5) (fun r2 _ => Xgq r2 false (fun k => k (S.get 9)) (fun g4 r4 => Xgq g4 false (fun k => k (S.get 6)) (fun g5 r5 => Xgq g5 false (fun k => XvBinOV P .neq 3 (.tmp 82) r4 r5 (fun r6 _ => k r6)) (fun g6 r6 => XvPick g6 (.atom (.bool true)) r6 (fun r7 _ => K ⟨[(1, S.get 1), (4, S.get 4), (5, S.get 5), (6, S.get 6), (84, r7)], S.hp, S.nx, S.gh⟩)))))) fun K hK => ?_
           repeat' (first | (refine hK _ ?_; clear hK K) | ((first | refine xG_intro (fun hg => ?_) (fun hg => ?_) | refine fun (hg : (_ : Prop)) => ?_) <;> ((try simp only [BQ] at hg); try (exfalso; omega))) | refine And.intro ?_ ?_ | exact cl | refine one_take ?_ _ | refine one_drop ?_ _ | (refine st ?_; try simp only [encB, encSpec]) | simp only [encB, encSpec])
           all_goals
           refine Tri.cond rfl (fun h84 => ?_) (fun h84 => ?_)
           ·try (cases h84; done)
            all_goals (try simp only [CQ] at h84)
            all_goals
            refine rY [1, 4, 5, 6] (fun P S K => K ⟨[(1, S.get 1), (4, (.atom (.int .i64 7))), (5, S.get 5), (6, S.get 6)], S.hp, S.nx, S.gh⟩) ?_
            all_goals
            refine rY [1, 4, 5, 6] (fun P S K => XvBinOV P .add 3 (.const (.int .i64 1)) (S.get 6) (.atom (.int .i64 1)) (fun r1 _ => K ⟨[(1, S.get 1), (4, S.get 4), (5, S.get 5), (6, r1)], S.hp, S.nx, S.gh⟩)) ?_
            all_goals try simp (disch := omega) only [wrap_id, wrap8_id]
            all_goals
            first
            | (refine ⟨⟨7, i + 1, by omega, fun j hj => (Nat.lt_succ_iff_lt_or_eq.1 hj).elim (hbi j) (fun h => h ▸ hnb), .inl ⟨rfl, g, i, hgl, by omega, fun h => by first | exact hg h.1 | exact h84 h.2⟩⟩, [0], by dsimp only; omega, ?_⟩
               exact leqW3)
            | (refine ⟨⟨e, i + 1, by omega, fun j hj => (Nat.lt_succ_iff_lt_or_eq.1 hj).elim (hbi j) (fun h => h ▸ hnb), hE2.next (fun h => h ⟨hg, h84⟩)⟩, [0], by dsimp only; omega, ?_⟩
               exact leqW3)
           ·try (cases h84; done)
            all_goals (try simp only [CQ] at h84)
            all_goals
            refine Tri.skip ?_
            refine rY [1, 4, 5, 6] (fun P S K => XvBinOV P .add 3 (.const (.int .i64 1)) (S.get 6) (.atom (.int .i64 1)) (fun r1 _ => K ⟨[(1, S.get 1), (4, S.get 4), (5, S.get 5), (6, r1)], S.hp, S.nx, S.gh⟩)) ?_
            all_goals try simp (disch := omega) only [wrap_id, wrap8_id]
            all_goals
            first
            | (refine ⟨⟨7, i + 1, by omega, fun j hj => (Nat.lt_succ_iff_lt_or_eq.1 hj).elim (hbi j) (fun h => h ▸ hnb), .inl ⟨rfl, g, i, hgl, by omega, fun h => by first | exact hg h.1 | exact h84 h.2⟩⟩, [0], by dsimp only; omega, ?_⟩
               exact leqW3)
            | (refine ⟨⟨e, i + 1, by omega, fun j hj => (Nat.lt_succ_iff_lt_or_eq.1 hj).elim (hbi j) (fun h => h ▸ hnb), hE2.next (fun h => h ⟨hg, h84⟩)⟩, [0], by dsimp only; omega, ?_⟩
               exact leqW3)
         ·try (cases h55; done)
          all_goals (try simp only [CQ] at h55)
          all_goals
          refine Tri.exit ?_
          refine rY [1, 4, 5] (fun P S K => XvBinOV P .add 3 (.const (.int .i64 1)) (S.get 5) (.atom (.int .i64 1)) (fun r1 _ => K ⟨[(1, S.get 1), (4, S.get 4), (5, r1)], S.hp, S.nx, S.gh⟩)) ?_
          all_goals try simp (disch := omega) only [wrap_id, wrap8_id]
          all_goals
          refine ⟨⟨e, g + 1, by omega, fun g' hj => ?_, hE2.group (by omega)⟩, [0], by dsimp only; omega, ?_⟩
          · rcases Nat.lt_succ_iff_lt_or_eq.1 hj with hj | rfl
            · exact hbg g' hj
            · rintro (h | ⟨i', h1, h2⟩)
              · exact h47 (by omega)
              · exact hbi i' (by omega) h2
          · exact leqW3
      ·try (cases h38; done)
       all_goals (try simp only [CQ] at h38)
       all_goals
       refine Tri.exit ?_
       refine sY [2] (fun P S K => K ⟨[(2, (S.get 4))], S.hp, S.nx, S.gh⟩) ?_
       all_goals
       refine Tri.ret ?_
       show ResOk _ _ _ _
       exact ResOk.val (aI (hE.done (by omega) hlim (by
       rintro (h | ⟨g', h1, h2⟩)
       · exact hskip h
       · exact hbg g' (by omega) h2))) rfl
end Go.Proofs.YtfnkciboencifaaDoor
set_option linter.all false
namespace Go.Proofs.YtfnkciboencifaaDoor
open Go Go.RowKit
set_option linter.unusedVariables false
theorem Rep.atomEq {D : Nat → Prop} {μ : Nat → Option Nat} {F : Nat → Prop} {w : World} {u v : Value} (h : Rep D μ F w (.atom u) v) : v = u := by cases h; rfl
theorem ResIs.atom {F : Nat → Prop} {w w' : World} (v : Value) : ResIs F w w' (.atom v) [] v :=
  ⟨fun _ => none, fun _ => False, .atom v, fun i o hi => by simp at hi, fun i b hi => by simp at hi, fun i j b hi => by simp at hi, fun b hb => hb.elim⟩
theorem Pure.atoms {P : Program} {f : FuncId} (args : List Value) (v : Value) (hen : Enters P f) (h : ∀ w, Calls P f args.toArray w fun e w' => e = .returned v ∧ Below w.heap.size w w') : Pure P f (args.map PV.atom) (.atom v) [] := by
  refine ⟨hen, fun D μ F w vs hvs hargs hF => ?_⟩
  have e : vs = args.toArray := by
    refine Array.ext (by simpa using hvs) fun i h1 h2 => ?_
    have hi : i < (args.map PV.atom).length := by simpa using h2
    have := hargs i hi
    rw [List.getElem_map] at this
    have := this.atomEq
    simpa [Array.getD, h1] using this
  rw [e]
  refine (h w).mono fun e w' he => ?_
  obtain ⟨rfl, hb⟩ := he
  exact ⟨v, rfl, hb, ResIs.atom v⟩
def foldS (s : ByteArray) : ByteArray := Elder.foldS s
theorem tokenFold_pure (s : ByteArray) (hs : s.size ≤ 4294967296) : Pure Tryd.prog 85 [encS s] (encS (foldS s)) [] :=
  Pure.atoms [.string s] _ (enters_of Tryd.func85 (by kernel_rfl) rfl) (fun w => Elder.Fold_any s w hs)
theorem refFold_pure (s : ByteArray) (hs : s.size ≤ 4294967296) : Pure Tryd.prog 97 [encS s] (encS (foldS s)) [] :=
  Pure.atoms [.string s] _ (enters_of Tryd.func97 (by kernel_rfl) rfl) (fun w => Elder.rFold_any s w hs)
def wordsS (s : ByteArray) : List ByteArray := Elder.wordsS s
theorem words_size (s : ByteArray) : ∀ x, x ∈ wordsS s → x.size ≤ s.size := Elder.words_sizes s
theorem fields_pure (s : ByteArray) (hs : s.size ≤ 4294967296) : Pure Tryd.prog 83 [encS s, .fn 84 []] (strs (wordsS s)) [] := by
  refine ⟨enters_of Tryd.func83 (by kernel_rfl) rfl, fun D μ F w vs hvs hargs hF => ?_⟩
  have h0 := (hargs 0 (by simp)).atomEq
  have h1 : vs.getD 1 undef = .func (.func 84) #[] #[] := by
    have h := hargs 1 (by simp)
    generalize vs.getD 1 undef = u at h
    simp only [List.getElem_cons_succ, List.getElem_cons_zero] at h
    cases h with
    | fn _ _ cvs hcs _ =>
      have hc0 : cvs = #[] := Array.eq_empty_of_size_eq_zero (by simpa using hcs)
      subst hc0; rfl
  have e : vs = #[.string s, .func (.func 84) #[] #[]] := by
    refine Array.ext (by simpa using hvs) fun i g1 g2 => ?_
    have : i = 0 ∨ i = 1 := by simp at g2; omega
    rcases this with rfl | rfl
    · simpa [Array.getD, g1] using h0
    · simpa [Array.getD, g1] using h1
  rw [e]
  refine (Elder.Fields_any s w hs).mono fun e w' he => ?_
  obtain ⟨A, rfl, hc, hm, hA, hb⟩ := he
  refine ⟨_, rfl, hb, fun _ => none, fun b => b = A ∧ b < w'.heap.size, ?_, fun i o hi => by simp at hi, fun i b hi => by simp at hi, fun i j b hi => by simp at hi, fun b hb' => ⟨.inr (hb'.1 ▸ hA), hb'.2⟩⟩
  by_cases hz : (wordsS s).length = 0
  · have hz' : wordsS s = [] := List.length_eq_zero_iff.1 hz
    show Rep _ _ _ _ (.sl 1 ((wordsS s).map encS)) (.slice (some ⟨A, 0, none⟩) (wordsS s).length (wordsS s).length)
    rw [hz']
    exact .sl0 1 _ 0 (Nat.zero_le _) (fun _ => rfl) (fun x hx => by cases hx; rfl)
  · have hlt : A < w'.heap.size := World.block_lt_of_cell? w' _ (hc 0 (Nat.pos_of_ne_zero hz))
    have := Rep.sl (D := fun i => i < ([] : List AO).length) (μ := fun _ => none) (F := fun b => b = A ∧ b < w'.heap.size) (w := w') 1 ((wordsS s).map encS) A 0 (wordsS s).length (fun j => .string (ls (wordsS s) j)) ⟨rfl, hlt⟩ (by simp) hm
      (fun j hj => by
        have hj' : j < (wordsS s).length := by simpa using hj
        rw [Nat.zero_add]; exact hc j hj') (fun k hk => by simp [encS, PV.cells]) (fun k hk c hcc => by
        have hk' : k < (wordsS s).length := by simpa using hk
        have e0 : ((wordsS s).map encS)[k].cells = [encS (ls (wordsS s) k)] := by
          have : (wordsS s)[k] = ls (wordsS s) k := by simp [ls, List.getD_eq_getElem?_getD, hk']
          simp [encS, PV.cells, this]
        have hc0 : c = 0 := by rw [e0] at hcc; simpa using hcc
        subst hc0
        rw [gl e0 hcc]
        simp only [List.getElem_cons_zero, Nat.mul_one, Nat.add_zero]
        exact Rep.atom _)
    rw [List.length_map] at this
    exact this
end Go.Proofs.YtfnkciboencifaaDoor
