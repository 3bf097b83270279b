/-
  The clean machine: a nil field of an own struct, seen as an own row that is empty and stands nowhere.
-/
import Derived.Test.YtfnkciboencifaaDoorKW17
import Derived.Test.YtfnkciboencifaaDoorKW1
import Derived.Test.YtfnkciboencifaaDoorKCnt
set_option linter.all false
namespace Go.Proofs.YtfnkciboencifaaDoor
open Go Go.RowKit
set_option linter.unusedVariables false
theorem HeapSim.swap {w0 : Home} {F0 D : Nat → Prop} {μ : Nat → Option Nat} {F : Nat → Prop} {H : Nat → Option AO} {w : World} (h : HeapSim w0 F0 D μ F H w) (i : Nat) (o o' : AO) (hi : H i = some o) (hs : Stands D μ F w o (μ i) → Stands D μ F w o' (μ i)) :
    HeapSim w0 F0 D μ F (upd H i (some o')) w := by
  refine h.step (Stay.refl _ _) (fun j hj => ⟨hj, rfl⟩) (fun _ hb => hb) h.ext h.f0 h.fsz fun j oj hj => ?_
  by_cases hji : j = i
  · subst hji
    rw [upd_same] at hj
    obtain rfl := Option.some.inj hj
    have ho := h.objs _ _ hi
    refine .inr ⟨ho.1, hs ho.2, fun b hb => ⟨(h.own _ _ b hi hb).1, (h.own _ _ b hi hb).2, fun k o2 hk hk2 hkb => ?_⟩⟩
    rw [upd_other _ _ hk] at hk2
    exact hk (h.inj k _ _ _ b hk2 hi hkb hb)
  · rw [upd_other _ _ hji] at hj
    exact .inl ⟨hj, fun b hb => ⟨rfl, (h.own _ _ b hj hb).2⟩⟩
theorem Tri.bornF {P : Program} {n : Nat} {c : Code} {S : St} {Q : Exit → St → Prop} (i k sz osz : Nat) (cs : List PV) (h : S.obj i = some ⟨osz, [.agg cs]⟩) (hk : cs[k]? = some (.atom (.slice none 0 0)))
    (ht : Tri P n c ⟨S.env, (i, some ⟨osz, [.agg (cs.set k (.ob S.nx sz 0 0))]⟩) :: (S.nx, some ⟨sz, []⟩) :: S.hp, S.nx + 1, S.gh⟩ Q) : Tri P n c S Q := fun w0 F0 D μ F G a w hS => by
  have hn : ¬ D S.nx := fun hd => Nat.lt_irrefl _ (hS.ids _ hd)
  have hold := also_ok (D := D) (μ := μ) (none : Option Nat) hn
  have hDi := (hS.heap.objs _ _ h).1
  have hin : i ≠ S.nx := fun e => hn (e ▸ hDi)
  refine ht w0 F0 (also D S.nx) (upd μ S.nx none) F G a w ⟨hS.defers, hS.size, fun s => (hS.env s).stay (Stay.refl _ _) hold (fun _ h => h), ?_, fun j hj => ?_, hS.ghl, fun j hj => (hS.gh j hj).stay (Stay.refl _ _) hold (fun _ h => h)⟩
  · have h1 := HeapSim.add hS.heap S.nx hn ⟨sz, []⟩ none (Stay.refl _ _) hS.heap.ext (Nat.le_refl _) rfl (fun b hb => by cases hb) (fun _ _ _ _ _ => rfl)
    have h2 := h1.swap i ⟨osz, [.agg cs]⟩ ⟨osz, [.agg (cs.set k (.ob S.nx sz 0 0))]⟩ (by rw [upd_other _ _ hin]; exact h) (fun hst => by
      cases hm : upd μ S.nx none i with
      | none => rw [hm] at hst; have : ([.agg cs] : List PV) = [] := hst; cases this
      | some b =>
        rw [hm] at hst
        obtain ⟨A, e, g1, g2, g3, g4⟩ := (hst : ObjOk _ _ _ _ b _)
        show ObjOk (also D S.nx) (upd μ S.nx none) F w b ⟨osz, [.agg (cs.set k (.ob S.nx sz 0 0))]⟩
        refine ⟨A, e, g1, g2, fun m hm2 => ?_, fun m hm2 c hc => ?_⟩
        · have : m = 0 := by simp at hm2; omega
          subst this
          have := g3 0 (by simp)
          simpa [PV.cells] using this
        · have : m = 0 := by simp at hm2; omega
          subst this
          have hc' : c < cs.length := by simpa [PV.cells] using hc
          have hr := g4 0 (by simp) c (by simpa [PV.cells] using hc')
          simp only [List.getElem_cons_zero, PV.cells] at hr ⊢
          rw [List.getElem_set]
          split
          · rename_i hkc
            subst hkc
            have e1 : cs[k] = .atom (.slice none 0 0) := by
              have := List.getElem?_eq_getElem hc'
              rw [hk] at this; exact (Option.some.inj this).symm
            rw [e1] at hr
            rw [nil_val hr]
            exact .obn S.nx sz (.inr rfl) (upd_same ..)
          · exact hr)
    have e : (St.mk S.env ((i, some ⟨osz, [.agg (cs.set k (.ob S.nx sz 0 0))]⟩) :: (S.nx, some ⟨sz, []⟩) :: S.hp) (S.nx + 1) S.gh).obj = upd (upd S.obj S.nx (some ⟨sz, []⟩)) i (some ⟨osz, [.agg (cs.set k (.ob S.nx sz 0 0))]⟩) := by
      funext j
      show (lk ((i, _) :: (S.nx, some ⟨sz, []⟩) :: S.hp) j).join = _
      unfold lk upd
      by_cases hj : i = j
      · rw [if_pos hj, if_pos hj.symm]; rfl
      · rw [if_neg hj, if_neg (Ne.symm hj)]
        unfold lk
        by_cases hj2 : S.nx = j
        · rw [if_pos hj2, if_pos hj2.symm]; rfl
        · rw [if_neg hj2, if_neg (Ne.symm hj2)]; rfl
    rw [e]; exact h2
  · rcases hj with hj | rfl
    · exact Nat.lt_succ_of_lt (hS.ids j hj)
    · exact Nat.lt_succ_self _
end Go.Proofs.YtfnkciboencifaaDoor
set_option linter.all false
namespace Go.Proofs.YtfnkciboencifaaDoor
open Go Go.RowKit
set_option linter.unusedSimpArgs false
set_option linter.unusedVariables false
set_option maxRecDepth 20000
theorem leqW3 {p : Prop} (h : p := by (refine ⟨4, ?_, ?_, rfl, by simp, rfl, fun _ h _ => absurd h (Nat.not_lt_zero _)⟩ <;> (simp only [List.forall_mem_cons]; repeat' (first | refine And.intro ?_ ?_ | (intro p hp; exact absurd hp List.not_mem_nil) | rfl | exact sp (pure_spec _) | exact (sealed_pure _ _ _ (pure_ints _)).trans (ren_ints _ _).symm | exact (sealed_pure _ _ _ (pure_strs _)).trans (ren_strs _ _).symm | (intro o ho; cases ho; refine ⟨by decide, ?_⟩; first | (refine LeqS.row rfl ?_ ?_; (next => (first | rfl | (simp only [List.map_append, List.map_cons, List.map_nil, List.append_nil, List.nil_append, List.append_assoc, List.cons_append, encI, encS, ints, strs]; done) | (simp [encI, encS, ints, strs]; done))); (next => (first | rfl | exact pureL_encI _ | exact pureL_encS _ | exact pureL_ints _ | exact pureL_strs _ | (simp [pureL_append, pureL_encI, pureL_encS, pureL_ints, pureL_strs, pureL, PV.pure, pure_ints, pure_strs, pure_spec]; done))); done) | refine ⟨_, rfl, rfl, ?_⟩) | (simp [St.born, St.known, retV, St.get, St.obj, lk, sealed, PV.ren, renL, rmap, AO.ren, ints, strs, encI, encS, map_sealed_encI, map_sealed_encS, map_sealed_ints, map_sealed_strs, map_ren_encI, map_ren_encS, map_ren_ints, map_ren_strs, renL_encI, renL_encS, renL_ints, renL_strs, ren_spec] <;> omega))))) : p := h
def BadSkip (s : SpecD) : Prop := ∃ k, k < s.skip.length ∧ ¬ SmallP (ls s.skip k)
def BadByte (c : UInt8) : Prop := c.toNat < 33 ∨ 126 < c.toNat
def BadGroup (s : SpecD) (g : Nat) : Prop := (ls s.order g).size = 0 ∨ ∃ i, i < (ls s.order g).size ∧ BadByte (byteAt (ls s.order g) i)
def BadOrder (s : SpecD) : Prop := ∃ g, g < s.order.length ∧ BadGroup s g
def TwiceAt (s : SpecD) (g i : Nat) : Prop := ¬ ((grp s (byteAt (ls s.order g) i)).1 = g ∧ (grp s (byteAt (ls s.order g) i)).2 = i)
def Twice (s : SpecD) : Prop := ∃ g i, g < s.order.length ∧ i < (ls s.order g).size ∧ TwiceAt s g i
noncomputable def validE (s : SpecD) : Int := tI (64 < s.order.length ∨ 16 < s.skip.length) 4 (tI (BadSkip s ∨ BadOrder s) 1 (tI (Twice s) 7 0))
theorem validE_limit {s : SpecD} (h : 64 < s.order.length ∨ 16 < s.skip.length) : validE s = 4 := tI_yes h
theorem validE_bad {s : SpecD} (h : ¬ (64 < s.order.length ∨ 16 < s.skip.length)) (hb : BadSkip s ∨ BadOrder s) : validE s = 1 := (tI_no h).trans (tI_yes hb)
theorem validE_twice {s : SpecD} (h : ¬ (64 < s.order.length ∨ 16 < s.skip.length)) (hb : ¬ (BadSkip s ∨ BadOrder s)) (ht : Twice s) : validE s = 7 := (tI_no h).trans ((tI_no hb).trans (tI_yes ht))
theorem validE_ok {s : SpecD} (h : ¬ (64 < s.order.length ∨ 16 < s.skip.length)) (hb : ¬ (BadSkip s ∨ BadOrder s)) (ht : ¬ Twice s) : validE s = 0 := (tI_no h).trans ((tI_no hb).trans (tI_no ht))
theorem validE_zero {s : SpecD} (h : validE s = 0) : ¬ (64 < s.order.length ∨ 16 < s.skip.length) ∧ ¬ (BadSkip s ∨ BadOrder s) ∧ ¬ Twice s := by
  refine ⟨fun h1 => ?_, fun h1 => ?_, fun h1 => ?_⟩
  · rw [validE_limit h1] at h; cases h
  · by_cases h0 : 64 < s.order.length ∨ 16 < s.skip.length
    · rw [validE_limit h0] at h; cases h
    · rw [validE_bad h0 h1] at h; cases h
  · by_cases h0 : 64 < s.order.length ∨ 16 < s.skip.length
    · rw [validE_limit h0] at h; cases h
    · by_cases h2 : BadSkip s ∨ BadOrder s
      · rw [validE_bad h0 h2] at h; cases h
      · rw [validE_twice h0 h2 h1] at h; cases h
def Before (s : SpecD) (g i : Nat) : Prop := ∀ g' i', (g' < g ∨ (g' = g ∧ i' < i)) → i' < (ls s.order g').size → ¬ TwiceAt s g' i'
def EI (s : SpecD) (e : Int) (g i : Nat) : Prop := (e = 7 ∧ Twice s) ∨ (e = 0 ∧ Before s g i)
theorem EI.next {s : SpecD} {e : Int} {g i : Nat} (h : EI s e g i) (h1 : ¬ TwiceAt s g i) : EI s e g (i + 1) := by
  rcases h with h | ⟨h, hb⟩
  · exact .inl h
  · refine .inr ⟨h, fun g' i' hx hi => ?_⟩
    rcases hx with hx | ⟨rfl, hx⟩
    · exact hb g' i' (.inl hx) hi
    · rcases Nat.lt_succ_iff_lt_or_eq.1 hx with hx | rfl
      · exact hb _ i' (.inr ⟨rfl, hx⟩) hi
      · exact h1
theorem EI.group {s : SpecD} {e : Int} {g i : Nat} (h : EI s e g i) (hi : (ls s.order g).size ≤ i) : EI s e (g + 1) 0 := by
  rcases h with h | ⟨h, hb⟩
  · exact .inl h
  · refine .inr ⟨h, fun g' i' hx hi2 => ?_⟩
    rcases hx with hx | ⟨rfl, hx⟩
    · rcases Nat.lt_succ_iff_lt_or_eq.1 hx with hx | rfl
      · exact hb g' i' (.inl hx) hi2
      · exact hb _ i' (.inr ⟨rfl, by omega⟩) hi2
    · omega
theorem EI.done {s : SpecD} {e : Int} {g : Nat} (h : EI s e g 0) (hg : s.order.length ≤ g) (h1 : ¬ (64 < s.order.length ∨ 16 < s.skip.length)) (h2 : ¬ (BadSkip s ∨ BadOrder s)) : e = validE s := by
  rcases h with ⟨rfl, ht⟩ | ⟨rfl, hb⟩
  · rw [validE_twice h1 h2 ht]
  · rw [validE_ok h1 h2]
    rintro ⟨g', i', a, b, c⟩
    exact hb g' i' (.inl (by omega)) b c
theorem rValid_pure (s : SpecD) (hs : Sane s) : Pure Tryd.prog 15 [encSpec s] (encI (validE s)) [] := by
  have hso := hs.order
  have hss := hs.skip
  refine Pure.intro (ts := [2]) Tryd.func15 (by kernel_rfl) rfl rfl rfl (Nat.le_of_ble_eq_true rfl) ?_ ?_
  · simp [encB, encSpec, PV.pure, pureL, pure_strs]
  refine sZ [1] (fun P S K => XvBox S.nx (S.get 0) (fun r0 e0 => K ⟨[(1, r0)], (Eff.hp e0 S.nx S.hp), (S.nx + e0.add.length), S.gh⟩)) fun K hK => ?_
  repeat' (first | (refine hK _ ?_; clear hK K) | ((first | refine xG_intro (fun hg => ?_) (fun hg => ?_) | refine fun (hg : (_ : Prop)) => ?_) <;> ((try simp only [BQ] at hg); try (exfalso; omega))) | refine And.intro ?_ ?_ | exact cl | refine one_take ?_ _ | refine one_drop ?_ _ | refine st ?_ | simp only [encB, encSpec])
  all_goals try simp (disch := omega) only [wrap_id, wrap8_id]
  all_goals
   refine Tri.seq ?_
   refine sZ [1, 19] (fun P S K => XvFieldAddr P 35 3 (S.get 1) (fun r0 _ => XvLoad P 25 (M S.hp S.nx) r0 (fun r1 _ => XvLen P 25 r1 (fun r2 _ => XvBinOV P .gtr 3 (.const (.int .i64 64)) r2 (.atom (.int .i64 64)) (fun r3 _ => Xgq r3 false (fun k => XvFieldAddr P 35 1 (S.get 1) (fun r5 _ => k r5)) (fun g5 r5 => Xgq g5 false (fun k => XvLoad P 25 (M S.hp S.nx) r5 (fun r6 _ => k r6)) (fun g6 r6 => Xgq g6 false (fun k => XvLen P 25 r6 (fun r7 _ => k r7)) (fun g7 r7 => Xgq g7 false (fun k => XvBinOV P .gtr 3 (.const (.int .i64 16)) r7 (.atom (.int .i64 16)) (fun r8 _ => k r8)) (fun g8 r8 => XvPick g8 (.atom (.bool true)) r8 (fun r9 _ => K ⟨[(1, S.get 1), (19, r9)], S.hp, S.nx, S.gh⟩)))))))))) fun K hK => ?_
   repeat' (first | (refine hK _ ?_; clear hK K) | ((first | refine xG_intro (fun hg => ?_) (fun hg => ?_) | refine fun (hg : (_ : Prop)) => ?_) <;> ((try simp only [BQ] at hg); try (exfalso; omega))) | refine And.intro ?_ ?_ | exact cl | refine one_take ?_ _ | refine one_drop ?_ _ | refine st ?_ | simp only [encB, encSpec])
   all_goals try simp (disch := omega) only [wrap_id, wrap8_id]
   all_goals
    refine Tri.cond rfl (fun h19 => ?_) (fun h19 => ?_)
    · try (cases h19; done)
      all_goals (try simp only [CQ] at h19)
      all_goals
       refine sZ [2] (fun P S K => K ⟨[(2, (.atom (.int .i64 4)))], S.hp, S.nx, S.gh⟩) fun K hK => ?_
       repeat' (first | (refine hK _ ?_; clear hK K) | ((first | refine xG_intro (fun hg => ?_) (fun hg => ?_) | refine fun (hg : (_ : Prop)) => ?_) <;> ((try simp only [BQ] at hg); try (exfalso; omega))) | refine And.intro ?_ ?_ | exact cl | refine one_take ?_ _ | refine one_drop ?_ _ | refine st ?_ | simp only [encB, encSpec])
       all_goals try simp (disch := omega) only [wrap_id, wrap8_id]
       all_goals
        refine Tri.ret ?_
        show ResOk _ _ _ _
        exact ResOk.val (aI (validE_limit (by omega)).symm) rfl
    · try (cases h19; done)
      all_goals (try simp only [CQ] at h19)
      all_goals
       refine Tri.skip ?_
       refine Tri.seq ?_
       have hlim : ¬ (64 < s.order.length ∨ 16 < s.skip.length) := by omega
       clear hg h19
       refine sZ [1, 3] (fun P S K => K ⟨[(1, S.get 1), (3, (.atom (.int .i64 0)))], S.hp, S.nx, S.gh⟩) fun K hK => ?_
       repeat' (first | (refine hK _ ?_; clear hK K) | ((first | refine xG_intro (fun hg => ?_) (fun hg => ?_) | refine fun (hg : (_ : Prop)) => ?_) <;> ((try simp only [BQ] at hg); try (exfalso; omega))) | refine And.intro ?_ ?_ | exact cl | refine one_take ?_ _ | refine one_drop ?_ _ | refine st ?_ | simp only [encB, encSpec])
       all_goals try simp (disch := omega) only [wrap_id, wrap8_id]
       all_goals
        refine Tri.block ?_
        refine Tri.loop (α := (k : Nat) ×' (k ≤ s.skip.length ∧ ∀ j, j < k → SmallP (ls s.skip j))) (fun z => (fun (k : Nat) => (⟨[(1, .ptr 0 4 0 0), (3, encI k)], [(0, some ⟨4, [encSpec s]⟩)], 1, []⟩ : St)) z.1) (fun z => (fun (k : Nat) => s.skip.length - k) z.1) ⟨0, ⟨by omega, by omega⟩⟩ [0] ?_ ?_
        · exact leqW3
        · rintro ⟨k, ⟨hk, hb⟩⟩
          refine Tri.seq ?_
          refine sZ [1, 3, 24] (fun P S K => XvFieldAddr P 35 1 (S.get 1) (fun r1 _ => XvLoad P 25 (M S.hp S.nx) r1 (fun r2 _ => XvLen P 25 r2 (fun r3 _ => XvBinOV P .lss 3 (.tmp 23) (S.get 3) r3 (fun r4 _ => K ⟨[(1, S.get 1), (3, S.get 3), (24, r4)], S.hp, S.nx, S.gh⟩))))) fun K hK => ?_
          repeat' (first | (refine hK _ ?_; clear hK K) | ((first | refine xG_intro (fun hg => ?_) (fun hg => ?_) | refine fun (hg : (_ : Prop)) => ?_) <;> ((try simp only [BQ] at hg); try (exfalso; omega))) | refine And.intro ?_ ?_ | exact cl | refine one_take ?_ _ | refine one_drop ?_ _ | refine st ?_ | simp only [encB, encSpec])
          all_goals try simp (disch := omega) only [wrap_id, wrap8_id]
          all_goals
           refine Tri.cond rfl (fun h24 => ?_) (fun h24 => ?_)
           · try (cases h24; done)
             all_goals (try simp only [CQ] at h24)
             all_goals
              refine Tri.skip ?_
              refine Tri.seq ?_
              refine Tri.block ?_
              have hsl : k < s.skip.length := by omega
              refine sZ [1, 3, 33] (fun P S K => XvFieldAddr P 35 1 (S.get 1) (fun r0 _ => XvLoad P 25 (M S.hp S.nx) r0 (fun r1 _ => XvIndexAddr P 25 r1 (S.get 3) (fun r3 _ => XvLoad P 9 (M S.hp S.nx) r3 (fun r4 _ => XvFnIV P (M S.hp S.nx) (.fn 43 []) [r4] (fun r5 e5 => XvUn .not r5 (fun r6 _ => K ⟨[(1, S.get 1), (3, S.get 3), (33, r6)], (Eff.hp e5 S.nx S.hp), (S.nx + e5.add.length), S.gh⟩))))))) fun K hK => ?_
              repeat' (first | (refine hK _ ?_; clear hK K) | ((first | refine xG_intro (fun hg => ?_) (fun hg => ?_) | refine fun (hg : (_ : Prop)) => ?_) <;> ((try simp only [BQ] at hg); try (exfalso; omega))) | refine And.intro ?_ ?_ | exact cl | refine one_take ?_ _ | refine one_drop ?_ _ | refine .inl ⟨_, _, rsmall_pure _ (hs.sk hsl), ?_⟩ | refine ⟨_, _, rsmall_pure _ (hs.sk hsl), ?_⟩ | refine .inl ⟨_, _, Group_pure s (byteAt (ls s.order g) i) hs, ?_⟩ | refine ⟨_, _, Group_pure s (byteAt (ls s.order g) i) hs, ?_⟩ | refine st ?_ | simp only [encB, encSpec, getD_encS hsl])
              all_goals try simp (disch := omega) only [wrap_id, wrap8_id]
              all_goals
               refine Tri.cond rfl (fun h33 => ?_) (fun h33 => ?_)
               · try (cases h33; done)
                 all_goals (try simp only [CQ] at h33)
                 all_goals
                  refine sZ [2] (fun P S K => K ⟨[(2, (.atom (.int .i64 1)))], S.hp, S.nx, S.gh⟩) fun K hK => ?_
                  repeat' (first | (refine hK _ ?_; clear hK K) | ((first | refine xG_intro (fun hg => ?_) (fun hg => ?_) | refine fun (hg : (_ : Prop)) => ?_) <;> ((try simp only [BQ] at hg); try (exfalso; omega))) | refine And.intro ?_ ?_ | exact cl | refine one_take ?_ _ | refine one_drop ?_ _ | refine st ?_ | simp only [encB, encSpec])
                  all_goals try simp (disch := omega) only [wrap_id, wrap8_id]
                  all_goals
                   refine Tri.ret ?_
                   show ResOk _ _ _ _
                   exact ResOk.val (aI (validE_bad hlim (.inl ⟨k, hsl, tB_not.1 h33⟩)).symm) rfl
               · try (cases h33; done)
                 all_goals (try simp only [CQ] at h33)
                 all_goals
                  refine Tri.skip ?_
                  refine rZ [1, 3] (fun P S K => XvBinOV P .add 3 (.const (.int .i64 1)) (S.get 3) (.atom (.int .i64 1)) (fun r1 _ => K ⟨[(1, S.get 1), (3, r1)], S.hp, S.nx, S.gh⟩)) fun K hK => ?_
                  repeat' (first | (refine hK _ ?_; clear hK K) | ((first | refine xG_intro (fun hg => ?_) (fun hg => ?_) | refine fun (hg : (_ : Prop)) => ?_) <;> ((try simp only [BQ] at hg); try (exfalso; omega))) | refine And.intro ?_ ?_ | exact cl | refine one_take ?_ _ | refine one_drop ?_ _ | refine st ?_ | simp only [encB, encSpec])
                  all_goals try simp (disch := omega) only [wrap_id, wrap8_id]
                  all_goals
                   refine ⟨⟨k + 1, by omega, fun j hj => ?_⟩, [0], by dsimp only; omega, ?_⟩
                   · rcases Nat.lt_succ_iff_lt_or_eq.1 hj with hj | rfl
                     · exact hb j hj
                     · exact tB_iff.1 (by simpa using h33)
                   · exact leqW3
           · try (cases h24; done)
             all_goals (try simp only [CQ] at h24)
             all_goals
              refine Tri.exit ?_
              have hskip : ¬ BadSkip s := fun ⟨j, hj, h⟩ => h (hb j (by omega))
              refine sZ [1, 4] (fun P S K => K ⟨[(1, S.get 1), (4, (.atom (.int .i64 0)))], S.hp, S.nx, S.gh⟩) fun K hK => ?_
              repeat' (first | (refine hK _ ?_; clear hK K) | ((first | refine xG_intro (fun hg => ?_) (fun hg => ?_) | refine fun (hg : (_ : Prop)) => ?_) <;> ((try simp only [BQ] at hg); try (exfalso; omega))) | refine And.intro ?_ ?_ | exact cl | refine one_take ?_ _ | refine one_drop ?_ _ | refine st ?_ | simp only [encB, encSpec])
              all_goals try simp (disch := omega) only [wrap_id, wrap8_id]
              all_goals
               refine Tri.seq ?_
               refine sZ [1, 4, 5] (fun P S K => K ⟨[(1, S.get 1), (4, S.get 4), (5, (.atom (.int .i64 0)))], S.hp, S.nx, S.gh⟩) fun K hK => ?_
               repeat' (first | (refine hK _ ?_; clear hK K) | ((first | refine xG_intro (fun hg => ?_) (fun hg => ?_) | refine fun (hg : (_ : Prop)) => ?_) <;> ((try simp only [BQ] at hg); try (exfalso; omega))) | refine And.intro ?_ ?_ | exact cl | refine one_take ?_ _ | refine one_drop ?_ _ | refine st ?_ | simp only [encB, encSpec])
               all_goals try simp (disch := omega) only [wrap_id, wrap8_id]
               all_goals
                refine Tri.block ?_
                refine Tri.loop (α := (e : Int) ×' (g : Nat) ×' (g ≤ s.order.length ∧ (∀ g', g' < g → ¬ BadGroup s g') ∧ EI s e g 0)) (fun z => (fun (e : Int) (g : Nat) => (⟨[(1, .ptr 0 4 0 0), (4, encI e), (5, encI g)], [(0, some ⟨4, [encSpec s]⟩)], 1, []⟩ : St)) z.1 z.2.1) (fun z => (fun (e : Int) (g : Nat) => s.order.length - g) z.1 z.2.1) ⟨0, 0, ⟨by omega, by omega, .inr ⟨rfl, fun g' i' hx hi => by omega⟩⟩⟩ [0] ?_ ?_
                · exact leqW3
                · rintro ⟨e, g, ⟨hg, hbg, hE⟩⟩
                  refine Tri.seq ?_
                  refine sZ [1, 4, 5, 38] (fun P S K => XvFieldAddr P 35 3 (S.get 1) (fun r1 _ => XvLoad P 25 (M S.hp S.nx) r1 (fun r2 _ => XvLen P 25 r2 (fun r3 _ => XvBinOV P .lss 3 (.tmp 37) (S.get 5) r3 (fun r4 _ => K ⟨[(1, S.get 1), (4, S.get 4), (5, S.get 5), (38, r4)], S.hp, S.nx, S.gh⟩))))) fun K hK => ?_
                  repeat' (first | (refine hK _ ?_; clear hK K) | ((first | refine xG_intro (fun hg => ?_) (fun hg => ?_) | refine fun (hg : (_ : Prop)) => ?_) <;> ((try simp only [BQ] at hg); try (exfalso; omega))) | refine And.intro ?_ ?_ | exact cl | refine one_take ?_ _ | refine one_drop ?_ _ | refine st ?_ | simp only [encB, encSpec])
                  all_goals try simp (disch := omega) only [wrap_id, wrap8_id]
                  all_goals
                   refine Tri.cond rfl (fun h38 => ?_) (fun h38 => ?_)
                   · try (cases h38; done)
                     all_goals (try simp only [CQ] at h38)
                     all_goals
                      refine Tri.skip ?_
                      refine Tri.seq ?_
                      refine Tri.block ?_
                      refine Tri.seq ?_
                      have hgl : g < s.order.length := by omega
                      have hgs := hs.od hgl
                      refine sZ [1, 4, 5, 47] (fun P S K => XvFieldAddr P 35 3 (S.get 1) (fun r0 _ => XvLoad P 25 (M S.hp S.nx) r0 (fun r1 _ => XvIndexAddr P 25 r1 (S.get 5) (fun r3 _ => XvLoad P 9 (M S.hp S.nx) r3 (fun r4 _ => XvLen P 9 r4 (fun r5 _ => XvBinOV P .eql 3 (.const (.int .i64 0)) r5 (.atom (.int .i64 0)) (fun r6 _ => K ⟨[(1, S.get 1), (4, S.get 4), (5, S.get 5), (47, r6)], S.hp, S.nx, S.gh⟩))))))) fun K hK => ?_
                      repeat' (first | (refine hK _ ?_; clear hK K) | ((first | refine xG_intro (fun hg => ?_) (fun hg => ?_) | refine fun (hg : (_ : Prop)) => ?_) <;> ((try simp only [BQ] at hg); try (exfalso; omega))) | refine And.intro ?_ ?_ | exact cl | refine one_take ?_ _ | refine one_drop ?_ _ | refine st ?_ | simp only [encB, encSpec, getD_encS hgl])
                      all_goals try simp (disch := omega) only [wrap_id, wrap8_id]
                      all_goals
                       refine Tri.cond rfl (fun h47 => ?_) (fun h47 => ?_)
                       · try (cases h47; done)
                         all_goals (try simp only [CQ] at h47)
                         all_goals
                          refine sZ [2] (fun P S K => K ⟨[(2, (.atom (.int .i64 1)))], S.hp, S.nx, S.gh⟩) fun K hK => ?_
                          repeat' (first | (refine hK _ ?_; clear hK K) | ((first | refine xG_intro (fun hg => ?_) (fun hg => ?_) | refine fun (hg : (_ : Prop)) => ?_) <;> ((try simp only [BQ] at hg); try (exfalso; omega))) | refine And.intro ?_ ?_ | exact cl | refine one_take ?_ _ | refine one_drop ?_ _ | refine st ?_ | simp only [encB, encSpec])
                          all_goals try simp (disch := omega) only [wrap_id, wrap8_id]
                          all_goals
                           refine Tri.ret ?_
                           show ResOk _ _ _ _
                           exact ResOk.val (aI (validE_bad hlim (.inr ⟨g, hgl, .inl (by omega)⟩)).symm) rfl
                       · try (cases h47; done)
                         all_goals (try simp only [CQ] at h47)
                         all_goals
                          refine Tri.skip ?_
                          refine sZ [1, 4, 5, 6] (fun P S K => K ⟨[(1, S.get 1), (4, S.get 4), (5, S.get 5), (6, (.atom (.int .i64 0)))], S.hp, S.nx, S.gh⟩) fun K hK => ?_
                          repeat' (first | (refine hK _ ?_; clear hK K) | ((first | refine xG_intro (fun hg => ?_) (fun hg => ?_) | refine fun (hg : (_ : Prop)) => ?_) <;> ((try simp only [BQ] at hg); try (exfalso; omega))) | refine And.intro ?_ ?_ | exact cl | refine one_take ?_ _ | refine one_drop ?_ _ | refine st ?_ | simp only [encB, encSpec])
                          all_goals try simp (disch := omega) only [wrap_id, wrap8_id]
                          all_goals
                           refine Tri.block ?_
                           refine Tri.loop (α := (e : Int) ×' (i : Nat) ×' (i ≤ (ls s.order g).size ∧ (∀ i', i' < i → ¬ BadByte (byteAt (ls s.order g) i')) ∧ EI s e g i)) (fun z => (fun (e : Int) (i : Nat) => (⟨[(1, .ptr 0 4 0 0), (4, encI e), (5, encI g), (6, encI i)], [(0, some ⟨4, [encSpec s]⟩)], 1, []⟩ : St)) z.1 z.2.1) (fun z => (fun (e : Int) (i : Nat) => (ls s.order g).size - i) z.1 z.2.1) ⟨e, 0, ⟨by omega, by omega, hE⟩⟩ [0] ?_ ?_
                           · exact leqW3
                           · rintro ⟨e, i, ⟨hi, hbi, hE2⟩⟩
                             refine Tri.seq ?_
                             refine sZ [1, 4, 5, 6, 55] (fun P S K => XvFieldAddr P 35 3 (S.get 1) (fun r1 _ => XvLoad P 25 (M S.hp S.nx) r1 (fun r2 _ => XvIndexAddr P 25 r2 (S.get 5) (fun r4 _ => XvLoad P 9 (M S.hp S.nx) r4 (fun r5 _ => XvLen P 9 r5 (fun r6 _ => XvBinOV P .lss 3 (.tmp 54) (S.get 6) r6 (fun r7 _ => K ⟨[(1, S.get 1), (4, S.get 4), (5, S.get 5), (6, S.get 6), (55, r7)], S.hp, S.nx, S.gh⟩))))))) fun K hK => ?_
                             repeat' (first | (refine hK _ ?_; clear hK K) | ((first | refine xG_intro (fun hg => ?_) (fun hg => ?_) | refine fun (hg : (_ : Prop)) => ?_) <;> ((try simp only [BQ] at hg); try (exfalso; omega))) | refine And.intro ?_ ?_ | exact cl | refine one_take ?_ _ | refine one_drop ?_ _ | refine st ?_ | simp only [encB, encSpec, getD_encS hgl])
                             all_goals try simp (disch := omega) only [wrap_id, wrap8_id]
                             all_goals
                              refine Tri.cond rfl (fun h55 => ?_) (fun h55 => ?_)
                              · try (cases h55; done)
                                all_goals (try simp only [CQ] at h55)
                                all_goals
                                 refine Tri.skip ?_
                                 refine Tri.seq ?_
                                 refine Tri.block ?_
                                 refine sZ [1, 4, 5, 6, 7] (fun P S K => XvFieldAddr P 35 3 (S.get 1) (fun r0 _ => XvLoad P 25 (M S.hp S.nx) r0 (fun r1 _ => XvIndexAddr P 25 r1 (S.get 5) (fun r3 _ => XvLoad P 9 (M S.hp S.nx) r3 (fun r4 _ => XvIndex P 9 r4 (S.get 6) (fun r6 _ => K ⟨[(1, S.get 1), (4, S.get 4), (5, S.get 5), (6, S.get 6), (7, r6)], S.hp, S.nx, S.gh⟩)))))) fun K hK => ?_
                                 repeat' (first | (refine hK _ ?_; clear hK K) | ((first | refine xG_intro (fun hg => ?_) (fun hg => ?_) | refine fun (hg : (_ : Prop)) => ?_) <;> ((try simp only [BQ] at hg); try (exfalso; omega))) | refine And.intro ?_ ?_ | exact cl | refine one_take ?_ _ | refine one_drop ?_ _ | refine st ?_ | simp only [encB, encSpec, getD_encS hgl])
                                 all_goals try simp (disch := omega) only [wrap_id, wrap8_id]
                                 all_goals
                                  refine Tri.seq ?_
                                  refine sZ [1, 4, 5, 6, 7, 70] (fun P S K => XvBinOV P .lss 5 (.const (.int .u8 33)) (S.get 7) (.atom (.int .u8 33)) (fun r1 _ => Xgq r1 false (fun k => k (S.get 7)) (fun g3 r3 => Xgq g3 false (fun k => XvBinOV P .gtr 5 (.const (.int .u8 126)) r3 (.atom (.int .u8 126)) (fun r4 _ => k r4)) (fun g4 r4 => XvPick g4 (.atom (.bool true)) r4 (fun r5 _ => K ⟨[(1, S.get 1), (4, S.get 4), (5, S.get 5), (6, S.get 6), (7, S.get 7), (70, r5)], S.hp, S.nx, S.gh⟩))))) fun K hK => ?_
                                  repeat' (first | (refine hK _ ?_; clear hK K) | ((first | refine xG_intro (fun hg => ?_) (fun hg => ?_) | refine fun (hg : (_ : Prop)) => ?_) <;> ((try simp only [BQ] at hg); try (exfalso; omega))) | refine And.intro ?_ ?_ | exact cl | refine one_take ?_ _ | refine one_drop ?_ _ | refine st ?_ | simp only [encB, encSpec])
                                  all_goals try simp (disch := omega) only [wrap_id, wrap8_id]
                                  all_goals
                                   refine Tri.cond rfl (fun h70 => ?_) (fun h70 => ?_)
                                   · try (cases h70; done)
                                     all_goals (try simp only [CQ] at h70)
                                     all_goals
                                      refine sZ [2] (fun P S K => K ⟨[(2, (.atom (.int .i64 1)))], S.hp, S.nx, S.gh⟩) fun K hK => ?_
                                      repeat' (first | (refine hK _ ?_; clear hK K) | ((first | refine xG_intro (fun hg => ?_) (fun hg => ?_) | refine fun (hg : (_ : Prop)) => ?_) <;> ((try simp only [BQ] at hg); try (exfalso; omega))) | refine And.intro ?_ ?_ | exact cl | refine one_take ?_ _ | refine one_drop ?_ _ | refine st ?_ | simp only [encB, encSpec])
                                      all_goals try simp (disch := omega) only [wrap_id, wrap8_id]
                                      all_goals
                                       refine Tri.ret ?_
                                       show ResOk _ _ _ _
                                       exact ResOk.val (aI (validE_bad hlim (.inr ⟨g, hgl, .inr ⟨i, by omega, by unfold BadByte; omega⟩⟩)).symm) rfl
                                   · try (cases h70; done)
                                     all_goals (try simp only [CQ] at h70)
                                     all_goals
                                      refine Tri.skip ?_
                                      have hnb : ¬ BadByte (byteAt (ls s.order g) i) := by unfold BadByte; omega
                                      clear hg
                                      refine sZ [1, 4, 5, 6, 8, 9] (fun P S K => XvLoad P 35 (M S.hp S.nx) (S.get 1) (fun r0 _ => XvFnIV P (M S.hp S.nx) (.fn 44 []) [r0, (S.get 7)] (fun r2 e2 => XvExtract r2 0 (fun r4 _ => XvExtract r2 1 (fun r5 _ => K ⟨[(1, S.get 1), (4, S.get 4), (5, S.get 5), (6, S.get 6), (8, r4), (9, r5)], (Eff.hp e2 S.nx S.hp), (S.nx + e2.add.length), S.gh⟩))))) fun K hK => ?_
                                      repeat' (first | (refine hK _ ?_; clear hK K) | ((first | refine xG_intro (fun hg => ?_) (fun hg => ?_) | refine fun (hg : (_ : Prop)) => ?_) <;> ((try simp only [BQ] at hg); try (exfalso; omega))) | refine And.intro ?_ ?_ | exact cl | refine one_take ?_ _ | refine one_drop ?_ _ | refine .inl ⟨_, _, rsmall_pure _ (hs.sk hsl), ?_⟩ | refine ⟨_, _, rsmall_pure _ (hs.sk hsl), ?_⟩ | refine .inl ⟨_, _, Group_pure s (byteAt (ls s.order g) i) hs, ?_⟩ | refine ⟨_, _, Group_pure s (byteAt (ls s.order g) i) hs, ?_⟩ | refine st ?_ | simp only [encB, encSpec])
                                      all_goals try simp (disch := omega) only [wrap_id, wrap8_id]
                                      all_goals
                                       refine sZ [1, 4, 5, 6, 84] (fun P S K => XvBinOV P .neq 3 (.tmp 78) (S.get 8) (S.get 5) (fun r2 _ => Xgq r2 false (fun k => k (S.get 9)) (fun g4 r4 => Xgq g4 false (fun k => k (S.get 6)) (fun g5 r5 => Xgq g5 false (fun k => XvBinOV P .neq 3 (.tmp 82) r4 r5 (fun r6 _ => k r6)) (fun g6 r6 => XvPick g6 (.atom (.bool true)) r6 (fun r7 _ => K ⟨[(1, S.get 1), (4, S.get 4), (5, S.get 5), (6, S.get 6), (84, r7)], S.hp, S.nx, S.gh⟩)))))) fun K hK => ?_
                                       repeat' (first | (refine hK _ ?_; clear hK K) | ((first | refine xG_intro (fun hg => ?_) (fun hg => ?_) | refine fun (hg : (_ : Prop)) => ?_) <;> ((try simp only [BQ] at hg); try (exfalso; omega))) | refine And.intro ?_ ?_ | exact cl | refine one_take ?_ _ | refine one_drop ?_ _ | refine st ?_ | simp only [encB, encSpec])
                                       all_goals try simp (disch := omega) only [wrap_id, wrap8_id]
                                       all_goals
                                        refine Tri.cond rfl (fun h84 => ?_) (fun h84 => ?_)
                                        · try (cases h84; done)
                                          all_goals (try simp only [CQ] at h84)
                                          all_goals
                                           refine rZ [1, 4, 5, 6] (fun P S K => K ⟨[(1, S.get 1), (4, (.atom (.int .i64 7))), (5, S.get 5), (6, S.get 6)], S.hp, S.nx, S.gh⟩) fun K hK => ?_
                                           repeat' (first | (refine hK _ ?_; clear hK K) | ((first | refine xG_intro (fun hg => ?_) (fun hg => ?_) | refine fun (hg : (_ : Prop)) => ?_) <;> ((try simp only [BQ] at hg); try (exfalso; omega))) | refine And.intro ?_ ?_ | exact cl | refine one_take ?_ _ | refine one_drop ?_ _ | refine st ?_ | simp only [encB, encSpec])
                                           all_goals try simp (disch := omega) only [wrap_id, wrap8_id]
                                           all_goals
                                            refine rZ [1, 4, 5, 6] (fun P S K => XvBinOV P .add 3 (.const (.int .i64 1)) (S.get 6) (.atom (.int .i64 1)) (fun r1 _ => K ⟨[(1, S.get 1), (4, S.get 4), (5, S.get 5), (6, r1)], S.hp, S.nx, S.gh⟩)) fun K hK => ?_
                                            repeat' (first | (refine hK _ ?_; clear hK K) | ((first | refine xG_intro (fun hg => ?_) (fun hg => ?_) | refine fun (hg : (_ : Prop)) => ?_) <;> ((try simp only [BQ] at hg); try (exfalso; omega))) | refine And.intro ?_ ?_ | exact cl | refine one_take ?_ _ | refine one_drop ?_ _ | refine st ?_ | simp only [encB, encSpec])
                                            all_goals try simp (disch := omega) only [wrap_id, wrap8_id]
                                            all_goals
                                             first
                                             | (refine ⟨⟨7, i + 1, by omega, fun j hj => (Nat.lt_succ_iff_lt_or_eq.1 hj).elim (hbi j) (fun h => h ▸ hnb), .inl ⟨rfl, g, i, hgl, by omega, fun h => by first | exact hg h.1 | exact h84 h.2⟩⟩, [0], by dsimp only; omega, ?_⟩
                                                exact leqW3)
                                             | (refine ⟨⟨e, i + 1, by omega, fun j hj => (Nat.lt_succ_iff_lt_or_eq.1 hj).elim (hbi j) (fun h => h ▸ hnb), hE2.next (fun h => h ⟨hg, h84⟩)⟩, [0], by dsimp only; omega, ?_⟩
                                                exact leqW3)
                                        · try (cases h84; done)
                                          all_goals (try simp only [CQ] at h84)
                                          all_goals
                                           refine Tri.skip ?_
                                           refine rZ [1, 4, 5, 6] (fun P S K => XvBinOV P .add 3 (.const (.int .i64 1)) (S.get 6) (.atom (.int .i64 1)) (fun r1 _ => K ⟨[(1, S.get 1), (4, S.get 4), (5, S.get 5), (6, r1)], S.hp, S.nx, S.gh⟩)) fun K hK => ?_
                                           repeat' (first | (refine hK _ ?_; clear hK K) | ((first | refine xG_intro (fun hg => ?_) (fun hg => ?_) | refine fun (hg : (_ : Prop)) => ?_) <;> ((try simp only [BQ] at hg); try (exfalso; omega))) | refine And.intro ?_ ?_ | exact cl | refine one_take ?_ _ | refine one_drop ?_ _ | refine st ?_ | simp only [encB, encSpec])
                                           all_goals try simp (disch := omega) only [wrap_id, wrap8_id]
                                           all_goals
                                            first
                                            | (refine ⟨⟨7, i + 1, by omega, fun j hj => (Nat.lt_succ_iff_lt_or_eq.1 hj).elim (hbi j) (fun h => h ▸ hnb), .inl ⟨rfl, g, i, hgl, by omega, fun h => by first | exact hg h.1 | exact h84 h.2⟩⟩, [0], by dsimp only; omega, ?_⟩
                                               exact leqW3)
                                            | (refine ⟨⟨e, i + 1, by omega, fun j hj => (Nat.lt_succ_iff_lt_or_eq.1 hj).elim (hbi j) (fun h => h ▸ hnb), hE2.next (fun h => h ⟨hg, h84⟩)⟩, [0], by dsimp only; omega, ?_⟩
                                               exact leqW3)
                              · try (cases h55; done)
                                all_goals (try simp only [CQ] at h55)
                                all_goals
                                 refine Tri.exit ?_
                                 refine rZ [1, 4, 5] (fun P S K => XvBinOV P .add 3 (.const (.int .i64 1)) (S.get 5) (.atom (.int .i64 1)) (fun r1 _ => K ⟨[(1, S.get 1), (4, S.get 4), (5, r1)], S.hp, S.nx, S.gh⟩)) fun K hK => ?_
                                 repeat' (first | (refine hK _ ?_; clear hK K) | ((first | refine xG_intro (fun hg => ?_) (fun hg => ?_) | refine fun (hg : (_ : Prop)) => ?_) <;> ((try simp only [BQ] at hg); try (exfalso; omega))) | refine And.intro ?_ ?_ | exact cl | refine one_take ?_ _ | refine one_drop ?_ _ | refine st ?_ | simp only [encB, encSpec])
                                 all_goals try simp (disch := omega) only [wrap_id, wrap8_id]
                                 all_goals
                                  refine ⟨⟨e, g + 1, by omega, fun g' hj => ?_, hE2.group (by omega)⟩, [0], by dsimp only; omega, ?_⟩
                                  · rcases Nat.lt_succ_iff_lt_or_eq.1 hj with hj | rfl
                                    · exact hbg g' hj
                                    · rintro (h | ⟨i', h1, h2⟩)
                                      · exact h47 (by omega)
                                      · exact hbi i' (by omega) h2
                                  · exact leqW3
                   · try (cases h38; done)
                     all_goals (try simp only [CQ] at h38)
                     all_goals
                      refine Tri.exit ?_
                      refine sZ [2] (fun P S K => K ⟨[(2, (S.get 4))], S.hp, S.nx, S.gh⟩) fun K hK => ?_
                      repeat' (first | (refine hK _ ?_; clear hK K) | ((first | refine xG_intro (fun hg => ?_) (fun hg => ?_) | refine fun (hg : (_ : Prop)) => ?_) <;> ((try simp only [BQ] at hg); try (exfalso; omega))) | refine And.intro ?_ ?_ | exact cl | refine one_take ?_ _ | refine one_drop ?_ _ | refine st ?_ | simp only [encB, encSpec])
                      all_goals try simp (disch := omega) only [wrap_id, wrap8_id]
                      all_goals
                       refine Tri.ret ?_
                       show ResOk _ _ _ _
                       exact ResOk.val (aI (hE.done (by omega) hlim (by
                       rintro (h | ⟨g', h1, h2⟩)
                       · exact hskip h
                       · exact hbg g' (by omega) h2))) rfl
end Go.Proofs.YtfnkciboencifaaDoor
set_option linter.all false
namespace Go.Proofs.YtfnkciboencifaaDoor
open Go Go.RowKit
set_option linter.unusedVariables false
theorem Rep.atomEq {D : Nat → Prop} {μ : Nat → Option Nat} {F : Nat → Prop} {w : World} {u v : Value} (h : Rep D μ F w (.atom u) v) : v = u := by cases h; rfl
theorem ResIs.atom {F : Nat → Prop} {w w' : World} (v : Value) : ResIs F w w' (.atom v) [] v :=
  ⟨fun _ => none, fun _ => False, .atom v, fun i o hi => by simp at hi, fun i b hi => by simp at hi, fun i j b hi => by simp at hi, fun b hb => hb.elim⟩
/-- A function of numbers and texts, by its contract elsewhere. -/
theorem Pure.atoms {P : Program} {f : FuncId} (args : List Value) (v : Value) (hen : Enters P f) (h : ∀ w, Calls P f args.toArray w fun e w' => e = .returned v ∧ Below w.heap.size w w') : Pure P f (args.map PV.atom) (.atom v) [] := by
  refine ⟨hen, fun D μ F w vs hvs hargs hF => ?_⟩
  have e : vs = args.toArray := by
    refine Array.ext (by simpa using hvs) fun i h1 h2 => ?_
    have hi : i < (args.map PV.atom).length := by simpa using h2
    have := hargs i hi
    rw [List.getElem_map] at this
    have := this.atomEq
    simpa [Array.getD, h1] using this
  rw [e]
  refine (h w).mono fun e w' he => ?_
  obtain ⟨rfl, hb⟩ := he
  exact ⟨v, rfl, hb, ResIs.atom v⟩

def foldS (s : ByteArray) : ByteArray := Elder.foldS s
theorem tokenFold_pure (s : ByteArray) (hs : s.size ≤ 4294967296) : Pure Tryd.prog 85 [encS s] (encS (foldS s)) [] :=
  Pure.atoms [.string s] _ (enters_of Tryd.func85 (by kernel_rfl) rfl) (fun w => Elder.Fold_any s w hs)
theorem refFold_pure (s : ByteArray) (hs : s.size ≤ 4294967296) : Pure Tryd.prog 97 [encS s] (encS (foldS s)) [] :=
  Pure.atoms [.string s] _ (enters_of Tryd.func97 (by kernel_rfl) rfl) (fun w => Elder.rFold_any s w hs)

/-- The words of a text. -/
def wordsS (s : ByteArray) : List ByteArray := Elder.wordsS s
theorem words_size (s : ByteArray) : ∀ x, x ∈ wordsS s → x.size ≤ s.size := Elder.words_sizes s
theorem fields_pure (s : ByteArray) (hs : s.size ≤ 4294967296) : Pure Tryd.prog 83 [encS s, .fn 84 []] (strs (wordsS s)) [] := by
  refine ⟨enters_of Tryd.func83 (by kernel_rfl) rfl, fun D μ F w vs hvs hargs hF => ?_⟩
  have h0 := (hargs 0 (by simp)).atomEq
  have h1 : vs.getD 1 undef = .func (.func 84) #[] #[] := by
    have h := hargs 1 (by simp)
    generalize vs.getD 1 undef = u at h
    simp only [List.getElem_cons_succ, List.getElem_cons_zero] at h
    cases h with
    | fn _ _ cvs hcs _ =>
      have hc0 : cvs = #[] := Array.eq_empty_of_size_eq_zero (by simpa using hcs)
      subst hc0; rfl
  have e : vs = #[.string s, .func (.func 84) #[] #[]] := by
    refine Array.ext (by simpa using hvs) fun i g1 g2 => ?_
    have : i = 0 ∨ i = 1 := by simp at g2; omega
    rcases this with rfl | rfl
    · simpa [Array.getD, g1] using h0
    · simpa [Array.getD, g1] using h1
  rw [e]
  refine (Elder.Fields_any s w hs).mono fun e w' he => ?_
  obtain ⟨A, rfl, hc, hm, hA, hb⟩ := he
  refine ⟨_, rfl, hb, fun _ => none, fun b => b = A ∧ b < w'.heap.size, ?_, fun i o hi => by simp at hi, fun i b hi => by simp at hi, fun i j b hi => by simp at hi, fun b hb' => ⟨.inr (hb'.1 ▸ hA), hb'.2⟩⟩
  by_cases hz : (wordsS s).length = 0
  · have hz' : wordsS s = [] := List.length_eq_zero_iff.1 hz
    show Rep _ _ _ _ (.sl 1 ((wordsS s).map encS)) (.slice (some ⟨A, 0, none⟩) (wordsS s).length (wordsS s).length)
    rw [hz']
    exact .sl0 1 _ 0 (Nat.zero_le _) (fun _ => rfl) (fun x hx => by cases hx; rfl)
  · have hlt : A < w'.heap.size := World.block_lt_of_cell? w' _ (hc 0 (Nat.pos_of_ne_zero hz))
    have := Rep.sl (D := fun i => i < ([] : List AO).length) (μ := fun _ => none) (F := fun b => b = A ∧ b < w'.heap.size) (w := w') 1 ((wordsS s).map encS) A 0 (wordsS s).length (fun j => .string (ls (wordsS s) j)) ⟨rfl, hlt⟩ (by simp) hm
      (fun j hj => by
        have hj' : j < (wordsS s).length := by simpa using hj
        rw [Nat.zero_add]; exact hc j hj') (fun k hk => by simp [encS, PV.cells]) (fun k hk c hcc => by
        have hk' : k < (wordsS s).length := by simpa using hk
        have e0 : ((wordsS s).map encS)[k].cells = [encS (ls (wordsS s) k)] := by
          have : (wordsS s)[k] = ls (wordsS s) k := by simp [ls, List.getD_eq_getElem?_getD, hk']
          simp [encS, PV.cells, this]
        have hc0 : c = 0 := by rw [e0] at hcc; simpa using hcc
        subst hc0
        rw [gl e0 hcc]
        simp only [List.getElem_cons_zero, Nat.mul_one, Nat.add_zero]
        exact Rep.atom _)
    rw [List.length_map] at this
    exact this
end Go.Proofs.YtfnkciboencifaaDoor
set_option linter.all false
namespace Go.Proofs.YtfnkciboencifaaDoor
open Go Go.RowKit
set_option linter.unusedSimpArgs false
set_option linter.unusedVariables false
set_option maxRecDepth 20000
theorem leqW5 {p : Prop} (h : p := by (refine ⟨4, ?_, ?_, rfl, by simp, rfl, fun _ h _ => absurd h (Nat.not_lt_zero _)⟩ <;> (simp only [List.forall_mem_cons]; repeat' (first | refine And.intro ?_ ?_ | (intro p hp; exact absurd hp List.not_mem_nil) | rfl | exact sp (pure_spec _) | exact (sealed_pure _ _ _ (pure_ints _)).trans (ren_ints _ _).symm | exact (sealed_pure _ _ _ (pure_strs _)).trans (ren_strs _ _).symm | (intro o ho; cases ho; refine ⟨by decide, ?_⟩; first | (refine LeqS.row rfl ?_ ?_; (next => (first | rfl | (simp only [List.map_append, List.map_cons, List.map_nil, List.append_nil, List.nil_append, List.append_assoc, List.cons_append, encI, encS, ints, strs]; done) | (simp [encI, encS, ints, strs]; done))); (next => (first | rfl | exact pureL_encI _ | exact pureL_encS _ | exact pureL_ints _ | exact pureL_strs _ | (simp [pureL_append, pureL_encI, pureL_encS, pureL_ints, pureL_strs, pureL, PV.pure, pure_ints, pure_strs, pure_spec]; done))); done) | refine ⟨_, rfl, rfl, ?_⟩) | (simp [St.born, St.known, retV, St.get, St.obj, lk, sealed, PV.ren, renL, rmap, AO.ren, ints, strs, encI, encS, map_sealed_encI, map_sealed_encS, map_sealed_ints, map_sealed_strs, map_ren_encI, map_ren_encS, map_ren_ints, map_ren_strs, renL_encI, renL_encS, renL_ints, renL_strs, ren_spec] <;> omega))))) : p := h
theorem lstW5 {p : Prop} (h : p := by (first | rfl | (simp [St.born, St.known, retV, St.get, St.obj, lk, sealed, PV.ren, renL, rmap, AO.ren, ints, strs, encI, encS, map_sealed_encI, map_sealed_encS, map_sealed_ints, map_sealed_strs, map_ren_encI, map_ren_encS, map_ren_ints, map_ren_strs, renL_encI, renL_encS, renL_ints, renL_strs, ren_spec, take_map_len, List.take_length]; done))) : p := h
theorem lpvW5 {p : Prop} (h : p := by (first | rfl | (simp [pure_ints, pure_strs, PV.pure, pureL, pureL_encI, pureL_encS, pureL_ints, pureL_strs, pure_spec]; done))) : p := h
def ext (s : ByteArray) (x : Nat × Nat) : ByteArray := s.extract x.1 x.2
/-- Where the splitting stands. -/
structure WI (s : ByteArray) (i frm : Nat) (out : List ByteArray) : Prop where
  le : frm ≤ i
  len : out.length ≤ i
  core : (i ≤ s.size ∧ ∃ acc st, out = acc.map (ext s) ∧ Elder.spB s s.size 0 none [] = Elder.spB s (s.size - i) i st acc ∧ ((st = none ∧ frm = i) ∨ (st = some frm ∧ frm < i))) ∨ (i = s.size + 1 ∧ out = wordsS s)
theorem WI.start (s : ByteArray) : WI s 0 0 [] := ⟨Nat.le_refl _, Nat.le_refl _, .inl ⟨Nat.zero_le _, [], none, rfl, rfl, .inl ⟨rfl, rfl⟩⟩⟩
theorem WI.word {s : ByteArray} {i frm : Nat} {out : List ByteArray} (h : WI s i frm out) (hi : i ≤ s.size) (hb : i = s.size ∨ byteAt s i = 32) (hf : frm < i) : WI s (i + 1) (i + 1) (out ++ [s.extract frm i]) := by
  refine ⟨Nat.le_refl _, by have := h.len; simp; omega, ?_⟩
  rcases h.core with ⟨_, acc, st, ho, hs, hst⟩ | ⟨h1, _⟩
  · rcases hst with ⟨_, he⟩ | ⟨rfl, _⟩
    · omega
    · by_cases hz : i = s.size
      · refine .inr ⟨by omega, ?_⟩
        rw [hz, Nat.sub_self, Elder.spB] at hs
        unfold wordsS Elder.wordsS
        rw [hs]
        simp only [Lib.closeSpans, List.map_append, List.map_cons, List.map_nil]
        rw [ho, hz]; rfl
      · refine .inl ⟨by omega, acc ++ [(frm, i)], none, by rw [ho]; simp [ext], ?_, .inl ⟨rfl, rfl⟩⟩
        rw [hs, show s.size - i = (s.size - (i + 1)) + 1 by omega, Elder.spB, if_pos (by
          have : Elder.bt s i = 32 := hb.resolve_left hz
          rw [this]; rfl)]
  · omega
theorem WI.gap {s : ByteArray} {i frm : Nat} {out : List ByteArray} (h : WI s i frm out) (hi : i ≤ s.size) (hb : i = s.size ∨ byteAt s i = 32) (hf : ¬ frm < i) : WI s (i + 1) (i + 1) out := by
  refine ⟨Nat.le_refl _, by have := h.len; omega, ?_⟩
  rcases h.core with ⟨_, acc, st, ho, hs, hst⟩ | ⟨h1, _⟩
  · rcases hst with ⟨rfl, he⟩ | ⟨rfl, _⟩
    · by_cases hz : i = s.size
      · refine .inr ⟨by omega, ?_⟩
        rw [hz, Nat.sub_self, Elder.spB] at hs
        unfold wordsS Elder.wordsS
        rw [hs]
        simp only [Lib.closeSpans]
        rw [ho]; rfl
      · refine .inl ⟨by omega, acc, none, ho, ?_, .inl ⟨rfl, rfl⟩⟩
        rw [hs, show s.size - i = (s.size - (i + 1)) + 1 by omega, Elder.spB, if_pos (by
          have : Elder.bt s i = 32 := hb.resolve_left hz
          rw [this]; rfl)]
    · omega
  · omega
theorem WI.go {s : ByteArray} {i frm : Nat} {out : List ByteArray} (h : WI s i frm out) (hi : i < s.size) (hb : ¬ byteAt s i = 32) : WI s (i + 1) frm out := by
  refine ⟨by have := h.le; omega, by have := h.len; omega, ?_⟩
  rcases h.core with ⟨_, acc, st, ho, hs, hst⟩ | ⟨h1, _⟩
  · have hn : ¬ ((Elder.bt s i == 32) = true) := fun hx => hb (show Elder.bt s i = 32 by simpa using hx)
    rcases hst with ⟨rfl, he⟩ | ⟨rfl, hf⟩
    · refine .inl ⟨by omega, acc, some frm, ho, ?_, .inr ⟨rfl, by omega⟩⟩
      rw [hs, show s.size - i = (s.size - (i + 1)) + 1 by omega, Elder.spB, if_neg hn, he]
    · refine .inl ⟨by omega, acc, some frm, ho, ?_, .inr ⟨rfl, by omega⟩⟩
      rw [hs, show s.size - i = (s.size - (i + 1)) + 1 by omega, Elder.spB, if_neg hn]
  · omega
theorem WI.done {s : ByteArray} {i frm : Nat} {out : List ByteArray} (h : WI s i frm out) (hi : s.size < i) : out = wordsS s := by
  rcases h.core with ⟨h1, _⟩ | ⟨_, h1⟩
  · omega
  · exact h1
theorem u8_32 {c : UInt8} (h : (c.toNat : Int) = 32) : c = 32 := UInt8.toNat_inj.1 (by show c.toNat = 32; omega)
theorem u8_n32 {c : UInt8} (h : ¬ (c.toNat : Int) = 32) : ¬ c = 32 := fun e => h (by rw [e]; rfl)
theorem Words_pure (s : ByteArray) (hs : s.size ≤ 4294967296) : Pure Tryd.prog 86 [encS s] (strs (wordsS s)) [] := by
  refine Pure.intro (ts := [2]) Tryd.func86 (by kernel_rfl) rfl rfl rfl (Nat.le_of_ble_eq_true rfl) ?_ ?_
  · simp [pure_ints, pure_strs, encI, encS, PV.pure, pureL]
  refine sZ [0] (fun P S K => K ⟨[(0, S.get 0)], S.hp, S.nx, S.gh⟩) fun K hK => ?_
  repeat' (first | (refine hK _ ?_; clear hK K) | ((first | refine xG_intro (fun hg => ?_) (fun hg => ?_) | refine fun (hg : (_ : Prop)) => ?_) <;> ((try simp only [BQ] at hg); try (exfalso; omega))) | refine And.intro ?_ ?_ | exact cl | refine one_take ?_ _ | refine one_drop ?_ _ | refine st ?_)
  all_goals try simp (disch := omega) only [wrap_id, wrap8_id]
  all_goals
   refine sZ [0, 3] (fun P S K => K ⟨[(0, S.get 0), (3, (.atom (.slice none 0 0)))], S.hp, S.nx, S.gh⟩) fun K hK => ?_
   repeat' (first | (refine hK _ ?_; clear hK K) | ((first | refine xG_intro (fun hg => ?_) (fun hg => ?_) | refine fun (hg : (_ : Prop)) => ?_) <;> ((try simp only [BQ] at hg); try (exfalso; omega))) | refine And.intro ?_ ?_ | exact cl | refine one_take ?_ _ | refine one_drop ?_ _ | refine st ?_)
   all_goals try simp (disch := omega) only [wrap_id, wrap8_id]
   refine Tri.born 3 1 rfl ?_
   all_goals
    refine sZ [0, 3, 4] (fun P S K => K ⟨[(0, S.get 0), (3, S.get 3), (4, (.atom (.int .i64 0)))], S.hp, S.nx, S.gh⟩) fun K hK => ?_
    repeat' (first | (refine hK _ ?_; clear hK K) | ((first | refine xG_intro (fun hg => ?_) (fun hg => ?_) | refine fun (hg : (_ : Prop)) => ?_) <;> ((try simp only [BQ] at hg); try (exfalso; omega))) | refine And.intro ?_ ?_ | exact cl | refine one_take ?_ _ | refine one_drop ?_ _ | refine st ?_)
    all_goals try simp (disch := omega) only [wrap_id, wrap8_id]
    all_goals
     refine Tri.seq ?_
     refine sZ [0, 3, 4, 5] (fun P S K => K ⟨[(0, S.get 0), (3, S.get 3), (4, S.get 4), (5, (.atom (.int .i64 0)))], S.hp, S.nx, S.gh⟩) fun K hK => ?_
     repeat' (first | (refine hK _ ?_; clear hK K) | ((first | refine xG_intro (fun hg => ?_) (fun hg => ?_) | refine fun (hg : (_ : Prop)) => ?_) <;> ((try simp only [BQ] at hg); try (exfalso; omega))) | refine And.intro ?_ ?_ | exact cl | refine one_take ?_ _ | refine one_drop ?_ _ | refine st ?_)
     all_goals try simp (disch := omega) only [wrap_id, wrap8_id]
     all_goals
      refine Tri.block ?_
      refine Tri.loop (α := (out : List ByteArray) ×' (frm : Nat) ×' (i : Nat) ×' (WI s i frm out)) (fun z => (fun (out : List ByteArray) (frm : Nat) (i : Nat) => (⟨[(0, encS s), (3, .ob 0 1 0 out.length), (4, encI frm), (5, encI i)], [(0, some ⟨1, out.map encS⟩)], 1, []⟩ : St)) z.1 z.2.1 z.2.2.1) (fun z => (fun (out : List ByteArray) (frm : Nat) (i : Nat) => s.size + 1 - i) z.1 z.2.1 z.2.2.1) ⟨[], 0, 0, WI.start s⟩ [0] ?_ ?_
      · exact leqW5
      · rintro ⟨out, frm, i, hW⟩
        have hle := hW.le
        have hlen := hW.len
        refine Tri.seq ?_
        refine sZ [0, 3, 4, 5, 9] (fun P S K => XvLen P 9 (S.get 0) (fun r2 _ => XvBinOV P .leq 3 (.tmp 8) (S.get 5) r2 (fun r3 _ => K ⟨[(0, S.get 0), (3, S.get 3), (4, S.get 4), (5, S.get 5), (9, r3)], S.hp, S.nx, S.gh⟩))) fun K hK => ?_
        repeat' (first | (refine hK _ ?_; clear hK K) | ((first | refine xG_intro (fun hg => ?_) (fun hg => ?_) | refine fun (hg : (_ : Prop)) => ?_) <;> ((try simp only [BQ] at hg); try (exfalso; omega))) | refine And.intro ?_ ?_ | exact cl | refine one_take ?_ _ | refine one_drop ?_ _ | refine st ?_)
        all_goals try simp (disch := omega) only [wrap_id, wrap8_id]
        all_goals
         refine Tri.cond rfl (fun h9 => ?_) (fun h9 => ?_)
         · try (cases h9; done)
           all_goals (try simp only [CQ] at h9)
           all_goals
            refine Tri.skip ?_
            refine Tri.seq ?_
            refine Tri.block ?_
            refine sZ [0, 3, 4, 5, 21] (fun P S K => XvLen P 9 (S.get 0) (fun r2 _ => XvBinOV P .eql 3 (.tmp 14) (S.get 5) r2 (fun r3 _ => Xgq r3 false (fun k => k (S.get 0)) (fun g5 r5 => Xgq g5 false (fun k => k (S.get 5)) (fun g6 r6 => Xgq g6 false (fun k => XvIndex P 9 r5 r6 (fun r7 _ => k r7)) (fun g7 r7 => Xgq g7 false (fun k => XvBinOV P .eql 5 (.const (.int .u8 32)) r7 (.atom (.int .u8 32)) (fun r8 _ => k r8)) (fun g8 r8 => XvPick g8 (.atom (.bool true)) r8 (fun r9 _ => K ⟨[(0, S.get 0), (3, S.get 3), (4, S.get 4), (5, S.get 5), (21, r9)], S.hp, S.nx, S.gh⟩)))))))) fun K hK => ?_
            repeat' (first | (refine hK _ ?_; clear hK K) | ((first | refine xG_intro (fun hg => ?_) (fun hg => ?_) | refine fun (hg : (_ : Prop)) => ?_) <;> ((try simp only [BQ] at hg); try (exfalso; omega))) | refine And.intro ?_ ?_ | exact cl | refine one_take ?_ _ | refine one_drop ?_ _ | refine st ?_)
            all_goals try simp (disch := omega) only [wrap_id, wrap8_id]
            all_goals
             refine Tri.cond rfl (fun h21 => ?_) (fun h21 => ?_)
             · try (cases h21; done)
               all_goals (try simp only [CQ] at h21)
               all_goals
                refine Tri.seq ?_
                refine sZ [0, 3, 4, 5, 24] (fun P S K => XvBinOV P .gtr 3 (.tmp 23) (S.get 5) (S.get 4) (fun r2 _ => K ⟨[(0, S.get 0), (3, S.get 3), (4, S.get 4), (5, S.get 5), (24, r2)], S.hp, S.nx, S.gh⟩)) fun K hK => ?_
                repeat' (first | (refine hK _ ?_; clear hK K) | ((first | refine xG_intro (fun hg => ?_) (fun hg => ?_) | refine fun (hg : (_ : Prop)) => ?_) <;> ((try simp only [BQ] at hg); try (exfalso; omega))) | refine And.intro ?_ ?_ | exact cl | refine one_take ?_ _ | refine one_drop ?_ _ | refine st ?_)
                all_goals try simp (disch := omega) only [wrap_id, wrap8_id]
                all_goals
                 refine Tri.cond rfl (fun h24 => ?_) (fun h24 => ?_)
                 · try (cases h24; done)
                   all_goals (try simp only [CQ] at h24)
                   all_goals
                    refine rZ [0, 3, 5] (fun P S K => XvSliceV P 9 (S.get 0) (some (S.get 4)) (some (S.get 5)) (fun r4 _ => XvBuildS P 25 1 S.nx [(0, r4)] (fun r5 e5 => (25 = 25 ∧ XvAppend P 25 (M (Eff.hp e5 S.nx S.hp) (S.nx + e5.add.length)) (S.get 3) r5 (fun r6 e6 => K ⟨[(0, S.get 0), (3, r6), (5, S.get 5)], (Eff.hp e6 (S.nx + e5.add.length) (Eff.hp e5 S.nx S.hp)), ((S.nx + e5.add.length) + e6.add.length), S.gh⟩))))) fun K hK => ?_
                    repeat' (first | (refine hK _ ?_; clear hK K) | ((first | refine xG_intro (fun hg => ?_) (fun hg => ?_) | refine fun (hg : (_ : Prop)) => ?_) <;> ((try simp only [BQ] at hg); try (exfalso; omega))) | refine And.intro ?_ ?_ | exact cl | refine one_take ?_ _ | refine one_drop ?_ _ | refine st ?_)
                    all_goals try simp (disch := omega) only [wrap_id, wrap8_id]
                    all_goals
                     refine rZ [0, 3, 4, 5] (fun P S K => XvBinOV P .add 3 (.const (.int .i64 1)) (S.get 5) (.atom (.int .i64 1)) (fun r1 _ => K ⟨[(0, S.get 0), (3, S.get 3), (4, r1), (5, S.get 5)], S.hp, S.nx, S.gh⟩)) fun K hK => ?_
                     repeat' (first | (refine hK _ ?_; clear hK K) | ((first | refine xG_intro (fun hg => ?_) (fun hg => ?_) | refine fun (hg : (_ : Prop)) => ?_) <;> ((try simp only [BQ] at hg); try (exfalso; omega))) | refine And.intro ?_ ?_ | exact cl | refine one_take ?_ _ | refine one_drop ?_ _ | refine st ?_)
                     all_goals try simp (disch := omega) only [wrap_id, wrap8_id]
                     all_goals
                      refine rZ [0, 3, 4, 5] (fun P S K => XvBinOV P .add 3 (.const (.int .i64 1)) (S.get 5) (.atom (.int .i64 1)) (fun r1 _ => K ⟨[(0, S.get 0), (3, S.get 3), (4, S.get 4), (5, r1)], S.hp, S.nx, S.gh⟩)) fun K hK => ?_
                      repeat' (first | (refine hK _ ?_; clear hK K) | ((first | refine xG_intro (fun hg => ?_) (fun hg => ?_) | refine fun (hg : (_ : Prop)) => ?_) <;> ((try simp only [BQ] at hg); try (exfalso; omega))) | refine And.intro ?_ ?_ | exact cl | refine one_take ?_ _ | refine one_drop ?_ _ | refine st ?_)
                      all_goals try simp (disch := omega) only [wrap_id, wrap8_id]
                      all_goals
                       first
                       | (refine ⟨⟨out ++ [s.extract frm i], i + 1, i + 1, hW.word (by omega) (by first | exact .inl (by omega) | exact .inr (u8_32 (by assumption))) (by omega)⟩, [2], by dsimp only; omega, ?_⟩
                          exact leqW5)
                       | (refine ⟨⟨out, i + 1, i + 1, hW.gap (by omega) (by first | exact .inl (by omega) | exact .inr (u8_32 (by assumption))) (by omega)⟩, [0], by dsimp only; omega, ?_⟩
                          exact leqW5)
                       | (refine ⟨⟨out, frm, i + 1, hW.go (by omega) (u8_n32 (by assumption))⟩, [0], by dsimp only; omega, ?_⟩
                          exact leqW5)
                 · try (cases h24; done)
                   all_goals (try simp only [CQ] at h24)
                   all_goals
                    refine Tri.skip ?_
                    refine rZ [0, 3, 4, 5] (fun P S K => XvBinOV P .add 3 (.const (.int .i64 1)) (S.get 5) (.atom (.int .i64 1)) (fun r1 _ => K ⟨[(0, S.get 0), (3, S.get 3), (4, r1), (5, S.get 5)], S.hp, S.nx, S.gh⟩)) fun K hK => ?_
                    repeat' (first | (refine hK _ ?_; clear hK K) | ((first | refine xG_intro (fun hg => ?_) (fun hg => ?_) | refine fun (hg : (_ : Prop)) => ?_) <;> ((try simp only [BQ] at hg); try (exfalso; omega))) | refine And.intro ?_ ?_ | exact cl | refine one_take ?_ _ | refine one_drop ?_ _ | refine st ?_)
                    all_goals try simp (disch := omega) only [wrap_id, wrap8_id]
                    all_goals
                     refine rZ [0, 3, 4, 5] (fun P S K => XvBinOV P .add 3 (.const (.int .i64 1)) (S.get 5) (.atom (.int .i64 1)) (fun r1 _ => K ⟨[(0, S.get 0), (3, S.get 3), (4, S.get 4), (5, r1)], S.hp, S.nx, S.gh⟩)) fun K hK => ?_
                     repeat' (first | (refine hK _ ?_; clear hK K) | ((first | refine xG_intro (fun hg => ?_) (fun hg => ?_) | refine fun (hg : (_ : Prop)) => ?_) <;> ((try simp only [BQ] at hg); try (exfalso; omega))) | refine And.intro ?_ ?_ | exact cl | refine one_take ?_ _ | refine one_drop ?_ _ | refine st ?_)
                     all_goals try simp (disch := omega) only [wrap_id, wrap8_id]
                     all_goals
                      first
                      | (refine ⟨⟨out ++ [s.extract frm i], i + 1, i + 1, hW.word (by omega) (by first | exact .inl (by omega) | exact .inr (u8_32 (by assumption))) (by omega)⟩, [2], by dsimp only; omega, ?_⟩
                         exact leqW5)
                      | (refine ⟨⟨out, i + 1, i + 1, hW.gap (by omega) (by first | exact .inl (by omega) | exact .inr (u8_32 (by assumption))) (by omega)⟩, [0], by dsimp only; omega, ?_⟩
                         exact leqW5)
                      | (refine ⟨⟨out, frm, i + 1, hW.go (by omega) (u8_n32 (by assumption))⟩, [0], by dsimp only; omega, ?_⟩
                         exact leqW5)
             · try (cases h21; done)
               all_goals (try simp only [CQ] at h21)
               all_goals
                refine Tri.skip ?_
                refine rZ [0, 3, 4, 5] (fun P S K => XvBinOV P .add 3 (.const (.int .i64 1)) (S.get 5) (.atom (.int .i64 1)) (fun r1 _ => K ⟨[(0, S.get 0), (3, S.get 3), (4, S.get 4), (5, r1)], S.hp, S.nx, S.gh⟩)) fun K hK => ?_
                repeat' (first | (refine hK _ ?_; clear hK K) | ((first | refine xG_intro (fun hg => ?_) (fun hg => ?_) | refine fun (hg : (_ : Prop)) => ?_) <;> ((try simp only [BQ] at hg); try (exfalso; omega))) | refine And.intro ?_ ?_ | exact cl | refine one_take ?_ _ | refine one_drop ?_ _ | refine st ?_)
                all_goals try simp (disch := omega) only [wrap_id, wrap8_id]
                all_goals
                 first
                 | (refine ⟨⟨out ++ [s.extract frm i], i + 1, i + 1, hW.word (by omega) (by first | exact .inl (by omega) | exact .inr (u8_32 (by assumption))) (by omega)⟩, [2], by dsimp only; omega, ?_⟩
                    exact leqW5)
                 | (refine ⟨⟨out, i + 1, i + 1, hW.gap (by omega) (by first | exact .inl (by omega) | exact .inr (u8_32 (by assumption))) (by omega)⟩, [0], by dsimp only; omega, ?_⟩
                    exact leqW5)
                 | (refine ⟨⟨out, frm, i + 1, hW.go (by omega) (u8_n32 (by assumption))⟩, [0], by dsimp only; omega, ?_⟩
                    exact leqW5)
         · try (cases h9; done)
           all_goals (try simp only [CQ] at h9)
           all_goals
            refine Tri.exit ?_
            refine sZ [2] (fun P S K => K ⟨[(2, (S.get 3))], S.hp, S.nx, S.gh⟩) fun K hK => ?_
            repeat' (first | (refine hK _ ?_; clear hK K) | ((first | refine xG_intro (fun hg => ?_) (fun hg => ?_) | refine fun (hg : (_ : Prop)) => ?_) <;> ((try simp only [BQ] at hg); try (exfalso; omega))) | refine And.intro ?_ ?_ | exact cl | refine one_take ?_ _ | refine one_drop ?_ _ | refine st ?_)
            all_goals try simp (disch := omega) only [wrap_id, wrap8_id]
            all_goals
             refine Tri.ret ?_
             show ResOk _ _ _ _
             rw [← hW.done (by omega)]
             exact ResOk.frz 5 lstW5 lpvW5
theorem skipped_pure (s : SpecD) (w : ByteArray) (hs : Sane s) (hw : w.size ≤ 4294967296) : Pure Tryd.prog 87 [encSpec s, encS w] (.atom (.bool (tB (foldS w ∈ s.skip)))) [] := by
  have hss := hs.skip
  refine Pure.intro (ts := [4]) Tryd.func87 (by kernel_rfl) rfl rfl rfl (Nat.le_of_ble_eq_true rfl) ?_ ?_
  · simp [encB, encS, encSpec, PV.pure, pureL, pure_strs]
  refine sZ [1, 2] (fun P S K => XvBox S.nx (S.get 0) (fun r0 e0 => K ⟨[(1, S.get 1), (2, r0)], (Eff.hp e0 S.nx S.hp), (S.nx + e0.add.length), S.gh⟩)) fun K hK => ?_
  repeat' (first | (refine hK _ ?_; clear hK K) | ((first | refine xG_intro (fun hg => ?_) (fun hg => ?_) | refine fun (hg : (_ : Prop)) => ?_) <;> ((try simp only [BQ] at hg); try (exfalso; omega))) | refine And.intro ?_ ?_ | exact cl | refine one_take ?_ _ | refine one_drop ?_ _ | refine st ?_ | simp only [encSpec])
  all_goals try simp (disch := omega) only [wrap_id, wrap8_id]
  all_goals
   refine Tri.seq ?_
   refine sZ [1, 2, 5] (fun P S K => K ⟨[(1, S.get 1), (2, S.get 2), (5, (.atom (.int .i64 0)))], S.hp, S.nx, S.gh⟩) fun K hK => ?_
   repeat' (first | (refine hK _ ?_; clear hK K) | ((first | refine xG_intro (fun hg => ?_) (fun hg => ?_) | refine fun (hg : (_ : Prop)) => ?_) <;> ((try simp only [BQ] at hg); try (exfalso; omega))) | refine And.intro ?_ ?_ | exact cl | refine one_take ?_ _ | refine one_drop ?_ _ | refine st ?_ | simp only [encSpec])
   all_goals try simp (disch := omega) only [wrap_id, wrap8_id]
   all_goals
    refine Tri.block ?_
    refine Tri.loop (α := (k : Nat) ×' (k ≤ s.skip.length ∧ ∀ j, j < k → ls s.skip j ≠ foldS w)) (fun z => (fun (k : Nat) => (⟨[(1, encS w), (2, .ptr 0 4 0 0), (5, encI k)], [(0, some ⟨4, [encSpec s]⟩)], 1, []⟩ : St)) z.1) (fun z => (fun (k : Nat) => s.skip.length - k) z.1) ⟨0, ⟨by omega, by omega⟩⟩ [0] ?_ ?_
    · exact leqW5
    · rintro ⟨k, ⟨hk, hb⟩⟩
      refine Tri.seq ?_
      refine sZ [1, 2, 5, 10] (fun P S K => XvFieldAddr P 35 1 (S.get 2) (fun r1 _ => XvLoad P 25 (M S.hp S.nx) r1 (fun r2 _ => XvLen P 25 r2 (fun r3 _ => XvBinOV P .lss 3 (.tmp 9) (S.get 5) r3 (fun r4 _ => K ⟨[(1, S.get 1), (2, S.get 2), (5, S.get 5), (10, r4)], S.hp, S.nx, S.gh⟩))))) fun K hK => ?_
      repeat' (first | (refine hK _ ?_; clear hK K) | ((first | refine xG_intro (fun hg => ?_) (fun hg => ?_) | refine fun (hg : (_ : Prop)) => ?_) <;> ((try simp only [BQ] at hg); try (exfalso; omega))) | refine And.intro ?_ ?_ | exact cl | refine one_take ?_ _ | refine one_drop ?_ _ | refine st ?_ | simp only [encSpec])
      all_goals try simp (disch := omega) only [wrap_id, wrap8_id]
      all_goals
       refine Tri.cond rfl (fun h10 => ?_) (fun h10 => ?_)
       · try (cases h10; done)
         all_goals (try simp only [CQ] at h10)
         all_goals
          refine Tri.skip ?_
          refine Tri.seq ?_
          refine Tri.block ?_
          have hsl : k < s.skip.length := by omega
          refine sD 8 [1, 2, 5, 20] (fun P GD S K => XvFieldAddr P 35 1 (S.get 2) (fun r0 e0 => XvLoad P 25 (M S.hp S.nx) r0 (fun r1 e1 => XvIndexAddr P 25 r1 (S.get 5) (fun r3 e3 => XvLoad P 9 (M S.hp S.nx) r3 (fun r4 e4 => XvFnV P (M S.hp S.nx) (.fn 97 []) [(S.get 1)] (fun r6 e6 => XvBinOV P .eql 9 (.tmp 19) r4 r6 (fun r7 e7 => (trOk S.nx GD [⟨S.nx, 0, e0.rd, [], []⟩, ⟨S.nx, 0, e1.rd, [], []⟩, ⟨S.nx, 0, [], [], []⟩, ⟨S.nx, 0, e3.rd, [], []⟩, ⟨S.nx, 0, e4.rd, [], []⟩, ⟨S.nx, 0, [], [], []⟩, (Eff.tr e6 S.nx), ⟨(S.nx + e6.add.length), 0, e7.rd, [], []⟩] = true ∧ K ⟨[(1, S.get 1), (2, S.get 2), (5, S.get 5), (20, r7)], (Eff.hp e6 S.nx S.hp), (S.nx + e6.add.length), S.gh⟩)))))))) fun K hK => ?_
          repeat' (first | (refine hK _ ?_; clear hK K) | (refine (?_ : trOk _ _ _ = true); kernel_rfl) | ((first | refine xG_intro (fun hg => ?_) (fun hg => ?_) | refine fun (hg : (_ : Prop)) => ?_) <;> ((try simp only [BQ] at hg); try (exfalso; omega))) | refine And.intro ?_ ?_ | exact cl | refine one_take ?_ _ | refine one_drop ?_ _ | refine .inl ⟨_, _, refFold_pure w hw, ?_⟩ | refine ⟨_, _, refFold_pure w hw, ?_⟩ | refine st ?_ | simp only [encSpec, getD_encS hsl])
          all_goals try simp (disch := omega) only [wrap_id, wrap8_id]
          all_goals
           refine Tri.cond rfl (fun h20 => ?_) (fun h20 => ?_)
           · try (cases h20; done)
             all_goals (try simp only [CQ] at h20)
             all_goals
              refine sZ [4] (fun P S K => K ⟨[(4, (.atom (.bool true)))], S.hp, S.nx, S.gh⟩) fun K hK => ?_
              repeat' (first | (refine hK _ ?_; clear hK K) | ((first | refine xG_intro (fun hg => ?_) (fun hg => ?_) | refine fun (hg : (_ : Prop)) => ?_) <;> ((try simp only [BQ] at hg); try (exfalso; omega))) | refine And.intro ?_ ?_ | exact cl | refine one_take ?_ _ | refine one_drop ?_ _ | refine st ?_ | simp only [encSpec])
              all_goals try simp (disch := omega) only [wrap_id, wrap8_id]
              all_goals
               refine Tri.ret ?_
               show ResOk _ _ _ _
               exact ResOk.val (aB (tB_yes (h20 ▸ ls_mem hsl)).symm) rfl
           · try (cases h20; done)
             all_goals (try simp only [CQ] at h20)
             all_goals
              refine Tri.skip ?_
              refine rZ [1, 2, 5] (fun P S K => XvBinOV P .add 3 (.const (.int .i64 1)) (S.get 5) (.atom (.int .i64 1)) (fun r1 _ => K ⟨[(1, S.get 1), (2, S.get 2), (5, r1)], S.hp, S.nx, S.gh⟩)) fun K hK => ?_
              repeat' (first | (refine hK _ ?_; clear hK K) | ((first | refine xG_intro (fun hg => ?_) (fun hg => ?_) | refine fun (hg : (_ : Prop)) => ?_) <;> ((try simp only [BQ] at hg); try (exfalso; omega))) | refine And.intro ?_ ?_ | exact cl | refine one_take ?_ _ | refine one_drop ?_ _ | refine st ?_ | simp only [encSpec])
              all_goals try simp (disch := omega) only [wrap_id, wrap8_id]
              all_goals
               refine ⟨⟨k + 1, by omega, fun j hj => ?_⟩, [0], by dsimp only; omega, ?_⟩
               · rcases Nat.lt_succ_iff_lt_or_eq.1 hj with hj | rfl
                 · exact hb j hj
                 · exact h20
               · exact leqW5
       · try (cases h10; done)
         all_goals (try simp only [CQ] at h10)
         all_goals
          refine Tri.exit ?_
          refine sZ [4] (fun P S K => K ⟨[(4, (.atom (.bool false)))], S.hp, S.nx, S.gh⟩) fun K hK => ?_
          repeat' (first | (refine hK _ ?_; clear hK K) | ((first | refine xG_intro (fun hg => ?_) (fun hg => ?_) | refine fun (hg : (_ : Prop)) => ?_) <;> ((try simp only [BQ] at hg); try (exfalso; omega))) | refine And.intro ?_ ?_ | exact cl | refine one_take ?_ _ | refine one_drop ?_ _ | refine st ?_ | simp only [encSpec])
          all_goals try simp (disch := omega) only [wrap_id, wrap8_id]
          all_goals
           refine Tri.ret ?_
           show ResOk _ _ _ _
           refine ResOk.val (aB (tB_no fun h => ?_).symm) rfl
           obtain ⟨j, hj, he⟩ := List.getElem_of_mem h
           exact hb j (by omega) (by rw [← he]; simp [ls, List.getD_eq_getElem?_getD, hj])
end Go.Proofs.YtfnkciboencifaaDoor
