/-
  Walks: the reference model of collations: words.
-/
import Derived.Test.YtfnkciboencifaaDoorOW1
import Derived.Test.YtfnkciboencifaaDoorOW4
set_option linter.all false
namespace Go.Proofs.YtfnkciboencifaaDoor
open Go Go.RowKit
set_option linter.unusedSimpArgs false
set_option linter.unusedVariables false
set_option maxRecDepth 20000
theorem leqW5 {p : Prop} (h : p := by (refine ⟨4, ?_, ?_, rfl, by simp, rfl, fun _ h _ => absurd h (Nat.not_lt_zero _)⟩ <;> (simp only [List.forall_mem_cons]; repeat' (first | refine And.intro ?_ ?_ | (intro p hp; exact absurd hp List.not_mem_nil) | rfl | exact sp (pure_spec _) | exact (sealed_pure _ _ _ (pure_ints _)).trans (ren_ints _ _).symm | exact (sealed_pure _ _ _ (pure_strs _)).trans (ren_strs _ _).symm | exact sp (by assumption) | (intro o ho; cases ho; refine ⟨by decide, ?_⟩; first | (refine LeqS.row rfl ?_ ?_; (next => (first | rfl | (simp only [List.map_append, List.map_cons, List.map_nil, List.append_nil, List.nil_append, List.append_assoc, List.cons_append, encI, encS, ints, strs]; done) | (simp [encI, encS, ints, strs]; done))); (next => (first | rfl | exact pureL_encI _ | exact pureL_encS _ | exact pureL_ints _ | exact pureL_strs _ | (simp [pureL_append, pureL_encI, pureL_encS, pureL_ints, pureL_strs, pureL, PV.pure, pure_ints, pure_strs, pure_spec]; done))); done) | refine ⟨_, rfl, rfl, ?_⟩) | (simp [St.born, St.known, retV, St.get, St.obj, lk, sealed, PV.ren, renL, rmap, AO.ren, ints, strs, encI, encS, map_sealed_encI, map_sealed_encS, map_sealed_ints, map_sealed_strs, map_ren_encI, map_ren_encS, map_ren_ints, map_ren_strs, renL_encI, renL_encS, renL_ints, renL_strs, ren_spec] <;> omega))))) : p := h
theorem lstW5 {p : Prop} (h : p := by (first | rfl | (simp [St.born, St.known, retV, St.get, St.obj, lk, sealed, PV.ren, renL, rmap, AO.ren, ints, strs, encI, encS, map_sealed_encI, map_sealed_encS, map_sealed_ints, map_sealed_strs, map_ren_encI, map_ren_encS, map_ren_ints, map_ren_strs, renL_encI, renL_encS, renL_ints, renL_strs, ren_spec, take_map_len, List.take_length]; done))) : p := h
theorem lpvW5 {p : Prop} (h : p := by (first | rfl | (simp [pure_ints, pure_strs, PV.pure, pureL, pureL_encI, pureL_encS, pureL_ints, pureL_strs, pure_spec]; done))) : p := h
def ext (s : ByteArray) (x : Nat × Nat) : ByteArray := s.extract x.1 x.2
structure WI (s : ByteArray) (i frm : Nat) (out : List ByteArray) : Prop where
  le : frm ≤ i
  len : out.length ≤ i
  core : (i ≤ s.size ∧ ∃ acc st, out = acc.map (ext s) ∧ Elder.spB s s.size 0 none [] = Elder.spB s (s.size - i) i st acc ∧ ((st = none ∧ frm = i) ∨ (st = some frm ∧ frm < i))) ∨ (i = s.size + 1 ∧ out = wordsS s)
theorem WI.start (s : ByteArray) : WI s 0 0 [] := ⟨Nat.le_refl _, Nat.le_refl _, .inl ⟨Nat.zero_le _, [], none, rfl, rfl, .inl ⟨rfl, rfl⟩⟩⟩
theorem WI.word {s : ByteArray} {i frm : Nat} {out : List ByteArray} (h : WI s i frm out) (hi : i ≤ s.size) (hb : i = s.size ∨ byteAt s i = 32) (hf : frm < i) : WI s (i + 1) (i + 1) (out ++ [s.extract frm i]) := by
  refine ⟨Nat.le_refl _, by have := h.len; simp; omega, ?_⟩
  rcases h.core with ⟨_, acc, st, ho, hs, hst⟩ | ⟨h1, _⟩
  · rcases hst with ⟨_, he⟩ | ⟨rfl, _⟩
    · omega
    · by_cases hz : i = s.size
      · refine .inr ⟨by omega, ?_⟩
        rw [hz, Nat.sub_self, Elder.spB] at hs
        unfold wordsS Elder.wordsS
        rw [hs]
        simp only [Lib.closeSpans, List.map_append, List.map_cons, List.map_nil]
        rw [ho, hz]; rfl
      · refine .inl ⟨by omega, acc ++ [(frm, i)], none, by rw [ho]; simp [ext], ?_, .inl ⟨rfl, rfl⟩⟩
        rw [hs, show s.size - i = (s.size - (i + 1)) + 1 by omega, Elder.spB, if_pos (by
          have : Elder.bt s i = 32 := hb.resolve_left hz
          rw [this]; rfl)]
  · omega
theorem WI.gap {s : ByteArray} {i frm : Nat} {out : List ByteArray} (h : WI s i frm out) (hi : i ≤ s.size) (hb : i = s.size ∨ byteAt s i = 32) (hf : ¬ frm < i) : WI s (i + 1) (i + 1) out := by
  refine ⟨Nat.le_refl _, by have := h.len; omega, ?_⟩
  rcases h.core with ⟨_, acc, st, ho, hs, hst⟩ | ⟨h1, _⟩
  · rcases hst with ⟨rfl, he⟩ | ⟨rfl, _⟩
    · by_cases hz : i = s.size
      · refine .inr ⟨by omega, ?_⟩
        rw [hz, Nat.sub_self, Elder.spB] at hs
        unfold wordsS Elder.wordsS
        rw [hs]
        simp only [Lib.closeSpans]
        rw [ho]; rfl
      · refine .inl ⟨by omega, acc, none, ho, ?_, .inl ⟨rfl, rfl⟩⟩
        rw [hs, show s.size - i = (s.size - (i + 1)) + 1 by omega, Elder.spB, if_pos (by
          have : Elder.bt s i = 32 := hb.resolve_left hz
          rw [this]; rfl)]
    · omega
  · omega
theorem WI.go {s : ByteArray} {i frm : Nat} {out : List ByteArray} (h : WI s i frm out) (hi : i < s.size) (hb : ¬ byteAt s i = 32) : WI s (i + 1) frm out := by
  refine ⟨by have := h.le; omega, by have := h.len; omega, ?_⟩
  rcases h.core with ⟨_, acc, st, ho, hs, hst⟩ | ⟨h1, _⟩
  · have hn : ¬ ((Elder.bt s i == 32) = true) := fun hx => hb (show Elder.bt s i = 32 by simpa using hx)
    rcases hst with ⟨rfl, he⟩ | ⟨rfl, hf⟩
    · refine .inl ⟨by omega, acc, some frm, ho, ?_, .inr ⟨rfl, by omega⟩⟩
      rw [hs, show s.size - i = (s.size - (i + 1)) + 1 by omega, Elder.spB, if_neg hn, he]
    · refine .inl ⟨by omega, acc, some frm, ho, ?_, .inr ⟨rfl, by omega⟩⟩
      rw [hs, show s.size - i = (s.size - (i + 1)) + 1 by omega, Elder.spB, if_neg hn]
  · omega
theorem WI.done {s : ByteArray} {i frm : Nat} {out : List ByteArray} (h : WI s i frm out) (hi : s.size < i) : out = wordsS s := by
  rcases h.core with ⟨h1, _⟩ | ⟨_, h1⟩
  · omega
  · exact h1
theorem u8_32 {c : UInt8} (h : (c.toNat : Int) = 32) : c = 32 := UInt8.toNat_inj.1 (by show c.toNat = 32; omega)
theorem u8_n32 {c : UInt8} (h : ¬ (c.toNat : Int) = 32) : ¬ c = 32 := fun e => h (by rw [e]; rfl)
theorem Words_pure (s : ByteArray) (hs : s.size ≤ 4294967296) : Pure Tryd.prog 86 [encS s] (strs (wordsS s)) [] := by
  refine Pure.intro (ts := [2]) Tryd.func86 (by kernel_rfl) rfl rfl rfl (Nat.le_of_ble_eq_true rfl) ?_ ?_
  · simp [pure_ints, pure_strs, encI, encS, PV.pure, pureL]
  refine sY [0] (fun P S K => K ⟨[(0, S.get 0)], S.hp, S.nx, S.gh⟩) ?_
  all_goals
  refine sY [0, 3] (fun P S K => K ⟨[(0, S.get 0), (3, (.atom (.slice none 0 0)))], S.hp, S.nx, S.gh⟩) ?_
  refine Tri.born 3 1 rfl ?_
  all_goals
  refine sY [0, 3, 4] (fun P S K => K ⟨[(0, S.get 0), (3, S.get 3), (4, (.atom (.int .i64 0)))], S.hp, S.nx, S.gh⟩) ?_
  all_goals
  refine Tri.seq ?_
  refine sY [0, 3, 4, 5] (fun P S K => K ⟨[(0, S.get 0), (3, S.get 3), (4, S.get 4), (5, (.atom (.int .i64 0)))], S.hp, S.nx, S.gh⟩) ?_
  all_goals
  refine Tri.block ?_
  refine Tri.loop (α := (out : List ByteArray) ×' (frm : Nat) ×' (i : Nat) ×' (WI s i frm out)) (fun z => (fun (out : List ByteArray) (frm : Nat) (i : Nat) => (⟨[(0, encS s), (3, .ob 0 1 0 out.length), (4, encI frm), (5, encI i)], [(0, some ⟨1, out.map encS⟩)], 1, []⟩ : St)) z.1 z.2.1 z.2.2.1) (fun z => (fun (out : List ByteArray) (frm : Nat) (i : Nat) => s.size + 1 - i) z.1 z.2.1 z.2.2.1) ⟨[], 0, 0, WI.start s⟩ [0] ?_ ?_
  ·exact leqW5
  ·rintro ⟨out, frm, i, hW⟩
   have hle := hW.le
   have hlen := hW.len
   refine Tri.seq ?_
   refine sY [0, 3, 4, 5, 9] (fun P S K => XvLen P 9 (S.get 0) (fun r2 _ => XvBinOV P .leq 3 (.tmp 8) (S.get 5) r2 (fun r3 _ => K ⟨[(0, S.get 0), (3, S.get 3), (4, S.get 4), (5, S.get 5), (9, r3)], S.hp, S.nx, S.gh⟩))) ?_
   all_goals
   refine Tri.cond rfl (fun h9 => ?_) (fun h9 => ?_)
   ·try (cases h9; done)
    all_goals (try simp only [CQ] at h9)
    all_goals
    refine Tri.skip ?_
    refine Tri.seq ?_
    refine Tri.block ?_
    refine sZ [0, 3, 4, 5, 21] (fun P S K => XvLen P 9 (S.get 0) (fun r2 _ => XvBinOV P .eql 3 (.tmp 14) (S.get 5) r2 (fun r3 _ => Xgq r3 false (fun k => k (S.get 0)) (fun g5 r5 => Xgq g5 false (fun k => k (S.get 5)) (fun g6 r6 => Xgq g6 false (fun k => XvIndex P 9 r5 r6 (fun r7 _ => k r7)) (fun g7 r7 => Xgq g7 false (fun k => XvBinOV P .eql 5 (.const (.int .u8 32)) r7 (.atom (.int .u8 32)) (fun r8 _ => k r8)) (fun g8 r8 => XvPick g8 (.atom (.bool true)) r8 (fun r9 _ => K ⟨[(0, S.get 0), (3, S.get 3), (4, S.get 4), (5, S.get 5), (21, r9)], S.hp, S.nx, S.gh⟩)))))))) fun K hK => ?_
    repeat' (first | (refine hK _ ?_; clear hK K) | ((first | refine xG_intro (fun hg => ?_) (fun hg => ?_) | refine fun (hg : (_ : Prop)) => ?_) <;> ((try simp only [BQ] at hg); try (exfalso; omega))) | refine And.intro ?_ ?_ | exact cl | refine one_take ?_ _ | refine one_drop ?_ _ | refine st ?_)
    all_goals
    refine Tri.cond rfl (fun h21 => ?_) (fun h21 => ?_)
    ·try (cases h21; done)
     all_goals (try simp only [CQ] at h21)
     all_goals
     refine Tri.seq ?_
     refine sY [0, 3, 4, 5, 24] (fun P S K => XvBinOV P .gtr 3 (.tmp 23) (S.get 5) (S.get 4) (fun r2 _ => K ⟨[(0, S.get 0), (3, S.get 3), (4, S.get 4), (5, S.get 5), (24, r2)], S.hp, S.nx, S.gh⟩)) ?_
     all_goals
     refine Tri.cond rfl (fun h24 => ?_) (fun h24 => ?_)
     ·try (cases h24; done)
      all_goals (try simp only [CQ] at h24)
      all_goals
      refine rY [0, 3, 5] (fun P S K => XvSliceV P 9 (S.get 0) (some (S.get 4)) (some (S.get 5)) (fun r4 _ => XvBuildS P 25 1 S.nx [(0, r4)] (fun r5 e5 => (25 = 25 ∧ XvAppend P 25 (M (Eff.hp e5 S.nx S.hp) (S.nx + e5.add.length)) (S.get 3) r5 (fun r6 e6 => K ⟨[(0, S.get 0), (3, r6), (5, S.get 5)], (Eff.hp e6 (S.nx + e5.add.length) (Eff.hp e5 S.nx S.hp)), ((S.nx + e5.add.length) + e6.add.length), S.gh⟩))))) ?_
      all_goals
      refine rY [0, 3, 4, 5] (fun P S K => XvBinOV P .add 3 (.const (.int .i64 1)) (S.get 5) (.atom (.int .i64 1)) (fun r1 _ => K ⟨[(0, S.get 0), (3, S.get 3), (4, r1), (5, S.get 5)], S.hp, S.nx, S.gh⟩)) ?_
      all_goals try simp (disch := omega) only [wrap_id, wrap8_id]
      all_goals
      refine rY [0, 3, 4, 5] (fun P S K => XvBinOV P .add 3 (.const (.int .i64 1)) (S.get 5) (.atom (.int .i64 1)) (fun r1 _ => K ⟨[(0, S.get 0), (3, S.get 3), (4, S.get 4), (5, r1)], S.hp, S.nx, S.gh⟩)) ?_
      all_goals try simp (disch := omega) only [wrap_id, wrap8_id]
      all_goals
      first
      | (refine ⟨⟨out ++ [s.extract frm i], i + 1, i + 1, hW.word (by omega) (by first | exact .inl (by omega) | exact .inr (u8_32 (by assumption))) (by omega)⟩, [2], by dsimp only; omega, ?_⟩
         exact leqW5)
      | (refine ⟨⟨out, i + 1, i + 1, hW.gap (by omega) (by first | exact .inl (by omega) | exact .inr (u8_32 (by assumption))) (by omega)⟩, [0], by dsimp only; omega, ?_⟩
         exact leqW5)
      | (refine ⟨⟨out, frm, i + 1, hW.go (by omega) (u8_n32 (by assumption))⟩, [0], by dsimp only; omega, ?_⟩
         exact leqW5)
     ·try (cases h24; done)
      all_goals (try simp only [CQ] at h24)
      all_goals
      refine Tri.skip ?_
      refine rY [0, 3, 4, 5] (fun P S K => XvBinOV P .add 3 (.const (.int .i64 1)) (S.get 5) (.atom (.int .i64 1)) (fun r1 _ => K ⟨[(0, S.get 0), (3, S.get 3), (4, r1), (5, S.get 5)], S.hp, S.nx, S.gh⟩)) ?_
      all_goals try simp (disch := omega) only [wrap_id, wrap8_id]
      all_goals
      refine rY [0, 3, 4, 5] (fun P S K => XvBinOV P .add 3 (.const (.int .i64 1)) (S.get 5) (.atom (.int .i64 1)) (fun r1 _ => K ⟨[(0, S.get 0), (3, S.get 3), (4, S.get 4), (5, r1)], S.hp, S.nx, S.gh⟩)) ?_
      all_goals try simp (disch := omega) only [wrap_id, wrap8_id]
      all_goals
      first
      | (refine ⟨⟨out ++ [s.extract frm i], i + 1, i + 1, hW.word (by omega) (by first | exact .inl (by omega) | exact .inr (u8_32 (by assumption))) (by omega)⟩, [2], by dsimp only; omega, ?_⟩
         exact leqW5)
      | (refine ⟨⟨out, i + 1, i + 1, hW.gap (by omega) (by first | exact .inl (by omega) | exact .inr (u8_32 (by assumption))) (by omega)⟩, [0], by dsimp only; omega, ?_⟩
         exact leqW5)
      | (refine ⟨⟨out, frm, i + 1, hW.go (by omega) (u8_n32 (by assumption))⟩, [0], by dsimp only; omega, ?_⟩
         exact leqW5)
    ·try (cases h21; done)
     all_goals (try simp only [CQ] at h21)
     all_goals
     refine Tri.skip ?_
     refine rY [0, 3, 4, 5] (fun P S K => XvBinOV P .add 3 (.const (.int .i64 1)) (S.get 5) (.atom (.int .i64 1)) (fun r1 _ => K ⟨[(0, S.get 0), (3, S.get 3), (4, S.get 4), (5, r1)], S.hp, S.nx, S.gh⟩)) ?_
     all_goals try simp (disch := omega) only [wrap_id, wrap8_id]
     all_goals
     first
     | (refine ⟨⟨out ++ [s.extract frm i], i + 1, i + 1, hW.word (by omega) (by first | exact .inl (by omega) | exact .inr (u8_32 (by assumption))) (by omega)⟩, [2], by dsimp only; omega, ?_⟩
        exact leqW5)
     | (refine ⟨⟨out, i + 1, i + 1, hW.gap (by omega) (by first | exact .inl (by omega) | exact .inr (u8_32 (by assumption))) (by omega)⟩, [0], by dsimp only; omega, ?_⟩
        exact leqW5)
     | (refine ⟨⟨out, frm, i + 1, hW.go (by omega) (u8_n32 (by assumption))⟩, [0], by dsimp only; omega, ?_⟩
        exact leqW5)
   ·try (cases h9; done)
    all_goals (try simp only [CQ] at h9)
    all_goals
    refine Tri.exit ?_
    refine sY [2] (fun P S K => K ⟨[(2, (S.get 3))], S.hp, S.nx, S.gh⟩) ?_
    all_goals
    refine Tri.ret ?_
    show ResOk _ _ _ _
    rw [← hW.done (by omega)]
    exact ResOk.frz 5 lstW5 lpvW5
theorem skipped_pure (s : SpecD) (w : ByteArray) (hs : Sane s) (hw : w.size ≤ 4294967296) : Pure Tryd.prog 87 [encSpec s, encS w] (.atom (.bool (tB (foldS w ∈ s.skip)))) [] := by
  have hss := hs.skip
  refine Pure.intro (ts := [4]) Tryd.func87 (by kernel_rfl) rfl rfl rfl (Nat.le_of_ble_eq_true rfl) ?_ ?_
  · simp [encB, encS, encSpec, PV.pure, pureL, pure_strs]
  refine sZ [1, 2] (fun P S K => XvBox S.nx (S.get 0) (fun r0 e0 => K ⟨[(1, S.get 1), (2, r0)], (Eff.hp e0 S.nx S.hp), (S.nx + e0.add.length), S.gh⟩)) fun K hK => ?_
  repeat' (first | (refine hK _ ?_; clear hK K) | ((first | refine xG_intro (fun hg => ?_) (fun hg => ?_) | refine fun (hg : (_ : Prop)) => ?_) <;> ((try simp only [BQ] at hg); try (exfalso; omega))) | refine And.intro ?_ ?_ | exact cl | refine one_take ?_ _ | refine one_drop ?_ _ | (refine st ?_; try simp only [encSpec]) | simp only [encSpec])
  all_goals
  refine Tri.seq ?_
  refine sY [1, 2, 5] (fun P S K => K ⟨[(1, S.get 1), (2, S.get 2), (5, (.atom (.int .i64 0)))], S.hp, S.nx, S.gh⟩) ?_
  all_goals
  refine Tri.block ?_
  refine Tri.loop (α := (k : Nat) ×' (k ≤ s.skip.length ∧ ∀ j, j < k → ls s.skip j ≠ foldS w)) (fun z => (fun (k : Nat) => (⟨[(1, encS w), (2, .ptr 0 4 0 0), (5, encI k)], [(0, some ⟨4, [encSpec s]⟩)], 1, []⟩ : St)) z.1) (fun z => (fun (k : Nat) => s.skip.length - k) z.1) ⟨0, ⟨by omega, by omega⟩⟩ [0] ?_ ?_
  ·exact leqW5
  ·rintro ⟨k, ⟨hk, hb⟩⟩
   refine Tri.seq ?_
   refine sZ [1, 2, 5, 10] (fun P S K => XvFieldAddr P 35 1 (S.get 2) (fun r1 _ => XvLoad P 25 (M S.hp S.nx) r1 (fun r2 _ => XvLen P 25 r2 (fun r3 _ => XvBinOV P .lss 3 (.tmp 9) (S.get 5) r3 (fun r4 _ => K ⟨[(1, S.get 1), (2, S.get 2), (5, S.get 5), (10, r4)], S.hp, S.nx, S.gh⟩))))) fun K hK => ?_
   repeat' (first | (refine hK _ ?_; clear hK K) | ((first | refine xG_intro (fun hg => ?_) (fun hg => ?_) | refine fun (hg : (_ : Prop)) => ?_) <;> ((try simp only [BQ] at hg); try (exfalso; omega))) | refine And.intro ?_ ?_ | exact cl | refine one_take ?_ _ | refine one_drop ?_ _ | (refine st ?_; try simp only [encSpec]) | simp only [encSpec])
   all_goals
   refine Tri.cond rfl (fun h10 => ?_) (fun h10 => ?_)
   ·try (cases h10; done)
    all_goals (try simp only [CQ] at h10)
    all_goals
    refine Tri.skip ?_
    refine Tri.seq ?_
    refine Tri.block ?_
    have hsl : k < s.skip.length := by omega
    refine sD 8 [1, 2, 5, 20] (fun P GD S K => XvFieldAddr P 35 1 (S.get 2) (fun r0 e0 => XvLoad P 25 (M S.hp S.nx) r0 (fun r1 e1 => XvIndexAddr P 25 r1 (S.get 5) (fun r3 e3 => XvLoad P 9 (M S.hp S.nx) r3 (fun r4 e4 => XvFnV P (M S.hp S.nx) (.fn 97 []) [(S.get 1)] (fun r6 e6 => XvBinOV P .eql 9 (.tmp 19) r4 r6 (fun r7 e7 => (trOk S.nx GD [⟨S.nx, 0, e0.rd, [], []⟩, ⟨S.nx, 0, e1.rd, [], []⟩, ⟨S.nx, 0, [], [], []⟩, ⟨S.nx, 0, e3.rd, [], []⟩, ⟨S.nx, 0, e4.rd, [], []⟩, ⟨S.nx, 0, [], [], []⟩, (Eff.tr e6 S.nx), ⟨(S.nx + e6.add.length), 0, e7.rd, [], []⟩] = true ∧ K ⟨[(1, S.get 1), (2, S.get 2), (5, S.get 5), (20, r7)], (Eff.hp e6 S.nx S.hp), (S.nx + e6.add.length), S.gh⟩)))))))) fun K hK => ?_
    repeat' (first | (refine hK _ ?_; clear hK K) | (refine (?_ : trOk _ _ _ = true); kernel_rfl) | ((first | refine xG_intro (fun hg => ?_) (fun hg => ?_) | refine fun (hg : (_ : Prop)) => ?_) <;> ((try simp only [BQ] at hg); try (exfalso; omega))) | refine And.intro ?_ ?_ | exact cl | refine one_take ?_ _ | refine one_drop ?_ _ | refine .inl ⟨_, _, refFold_pure w hw, ?_⟩ | refine ⟨_, _, refFold_pure w hw, ?_⟩ | (refine st ?_; try simp only [encSpec, getD_encS hsl]) | simp only [encSpec, getD_encS hsl])
    all_goals
    refine Tri.cond rfl (fun h20 => ?_) (fun h20 => ?_)
    ·try (cases h20; done)
     all_goals (try simp only [CQ] at h20)
     all_goals
     refine sY [4] (fun P S K => K ⟨[(4, (.atom (.bool true)))], S.hp, S.nx, S.gh⟩) ?_
     all_goals
     refine Tri.ret ?_
     show ResOk _ _ _ _
     exact ResOk.val (aB (tB_yes (h20 ▸ ls_mem hsl)).symm) rfl
    ·try (cases h20; done)
     all_goals (try simp only [CQ] at h20)
     all_goals
     refine Tri.skip ?_
     refine rY [1, 2, 5] (fun P S K => XvBinOV P .add 3 (.const (.int .i64 1)) (S.get 5) (.atom (.int .i64 1)) (fun r1 _ => K ⟨[(1, S.get 1), (2, S.get 2), (5, r1)], S.hp, S.nx, S.gh⟩)) ?_
     all_goals try simp (disch := omega) only [wrap_id, wrap8_id]
     all_goals
     refine ⟨⟨k + 1, by omega, fun j hj => ?_⟩, [0], by dsimp only; omega, ?_⟩
     · rcases Nat.lt_succ_iff_lt_or_eq.1 hj with hj | rfl
       · exact hb j hj
       · exact h20
     · exact leqW5
   ·try (cases h10; done)
    all_goals (try simp only [CQ] at h10)
    all_goals
    refine Tri.exit ?_
    refine sY [4] (fun P S K => K ⟨[(4, (.atom (.bool false)))], S.hp, S.nx, S.gh⟩) ?_
    all_goals
    refine Tri.ret ?_
    show ResOk _ _ _ _
    refine ResOk.val (aB (tB_no fun h => ?_).symm) rfl
    obtain ⟨j, hj, he⟩ := List.getElem_of_mem h
    exact hb j (by omega) (by rw [← he]; simp [ls, List.getD_eq_getElem?_getD, hj])
end Go.Proofs.YtfnkciboencifaaDoor
set_option linter.all false
namespace Go.Proofs.YtfnkciboencifaaDoor
open Go Go.RowKit
set_option linter.unusedSimpArgs false
set_option linter.unusedVariables false
set_option maxRecDepth 20000
theorem leqW6 {p : Prop} (h : p := by (refine ⟨4, ?_, ?_, rfl, by simp, rfl, fun _ h _ => absurd h (Nat.not_lt_zero _)⟩ <;> (simp only [List.forall_mem_cons]; repeat' (first | refine And.intro ?_ ?_ | (intro p hp; exact absurd hp List.not_mem_nil) | rfl | exact sp (pure_spec _) | exact (sealed_pure _ _ _ (pure_ints _)).trans (ren_ints _ _).symm | exact (sealed_pure _ _ _ (pure_strs _)).trans (ren_strs _ _).symm | exact sp (by assumption) | (intro o ho; cases ho; refine ⟨by decide, ?_⟩; first | (refine LeqS.row rfl ?_ ?_; (next => (first | rfl | (simp only [List.map_append, List.map_cons, List.map_nil, List.append_nil, List.nil_append, List.append_assoc, List.cons_append, encI, encS, ints, strs]; done) | (simp [encI, encS, ints, strs, digOf]; done))); (next => (first | rfl | exact pureL_encI _ | exact pureL_encS _ | exact pureL_ints _ | exact pureL_strs _ | (simp [pureL_append, pureL_encI, pureL_encS, pureL_ints, pureL_strs, pureL, PV.pure, pure_ints, pure_strs, pure_spec]; done))); done) | refine ⟨_, rfl, rfl, ?_⟩) | (simp [St.born, St.known, retV, St.get, St.obj, lk, sealed, PV.ren, renL, rmap, AO.ren, ints, strs, encI, encS, map_sealed_encI, map_sealed_encS, map_sealed_ints, map_sealed_strs, map_ren_encI, map_ren_encS, map_ren_ints, map_ren_strs, renL_encI, renL_encS, renL_ints, renL_strs, ren_spec] <;> omega))))) : p := h
theorem lstW6 {p : Prop} (h : p := by (first | rfl | (simp [St.born, St.known, retV, St.get, St.obj, lk, sealed, PV.ren, renL, rmap, AO.ren, ints, strs, encI, encS, map_sealed_encI, map_sealed_encS, map_sealed_ints, map_sealed_strs, map_ren_encI, map_ren_encS, map_ren_ints, map_ren_strs, renL_encI, renL_encS, renL_ints, renL_strs, ren_spec, take_map_len, List.take_length]; done))) : p := h
theorem lpvW6 {p : Prop} (h : p := by (first | rfl | (simp [pure_ints, pure_strs, PV.pure, pureL, pureL_encI, pureL_encS, pureL_ints, pureL_strs, pure_spec]; done))) : p := h
noncomputable def dropSkip (sk : List ByteArray) : List ByteArray → List ByteArray
  | [] => []
  | [x] => [x]
  | x :: y :: l => if tB (foldS x ∈ sk) then dropSkip sk (y :: l) else x :: y :: l
theorem dropSkip_yes {sk : List ByteArray} {x : ByteArray} {l : List ByteArray} (h : 1 ≤ l.length) (hc : tB (foldS x ∈ sk) = true) : dropSkip sk (x :: l) = dropSkip sk l := by
  cases l with
  | nil => simp at h
  | cons y l => rw [dropSkip, if_pos hc]
theorem dropSkip_no {sk : List ByteArray} {x : ByteArray} {l : List ByteArray} (hc : tB (foldS x ∈ sk) = false) : dropSkip sk (x :: l) = x :: l := by
  cases l with
  | nil => rfl
  | cons y l => rw [dropSkip, if_neg (by rw [hc]; decide)]
theorem dropSkip_short {sk l : List ByteArray} (h : l.length ≤ 1) : dropSkip sk l = l := by
  match l, h with
  | [], _ => rfl
  | [x], _ => rfl
noncomputable def counted (s : SpecD) (t : ByteArray) : List ByteArray := dropSkip s.skip (wordsS t)
theorem drop_words (l : List ByteArray) (k : Nat) : (l.map encS).drop k = (l.drop k).map encS := (List.map_drop ..).symm
theorem take_drop_len (l : List ByteArray) (k : Nat) : ((l.map encS).drop k).take (l.length - k) = (l.map encS).drop k := by rw [List.take_of_length_le]; simp
theorem spB_len (s : ByteArray) : ∀ (f pos : Nat) (st : Option Nat) (acc : List (Nat × Nat)), (Elder.spB s f pos st acc).1.length ≤ acc.length + f
  | 0, _, st, acc => Nat.le_refl _
  | f + 1, pos, st, acc => by
    unfold Elder.spB
    split
    · split
      · refine Nat.le_trans (spB_len s f (pos + 1) none _) ?_
        simp; omega
      · have := spB_len s f (pos + 1) none acc; omega
    · split
      · exact Nat.le_trans (spB_len s f (pos + 1) (some _) acc) (by omega)
      · have := spB_len s f (pos + 1) (some pos) acc; omega
theorem words_len (s : ByteArray) : (wordsS s).length ≤ s.size + 1 := by
  show (List.map _ (Lib.closeSpans s _)).length ≤ _
  rw [List.length_map]
  have := spB_len s s.size 0 none []
  simp only [List.length_nil, Nat.zero_add] at this
  unfold Lib.closeSpans
  split <;> simp <;> omega
theorem Counted_pure (s : SpecD) (t : ByteArray) (hs : Sane s) (ht : t.size ≤ 4294967296) : Pure Tryd.prog 70 [encSpec s, encS t] (strs (counted s t)) [] := by
  have hwl := words_len t
  have hws := words_size t
  refine Pure.intro (ts := [4]) Tryd.func70 (by kernel_rfl) rfl rfl rfl (Nat.le_of_ble_eq_true rfl) ?_ ?_
  · simp [encB, encS, encSpec, PV.pure, pureL, pure_strs]
  refine sZ [1, 2] (fun P S K => XvBox S.nx (S.get 0) (fun r0 e0 => K ⟨[(1, S.get 1), (2, r0)], (Eff.hp e0 S.nx S.hp), (S.nx + e0.add.length), S.gh⟩)) fun K hK => ?_
  repeat' (first | (refine hK _ ?_; clear hK K) | ((first | refine xG_intro (fun hg => ?_) (fun hg => ?_) | refine fun (hg : (_ : Prop)) => ?_) <;> ((try simp only [BQ] at hg); try (exfalso; omega))) | refine And.intro ?_ ?_ | exact cl | refine one_take ?_ _ | refine one_drop ?_ _ | (refine st ?_; try simp only [encSpec]) | simp only [encSpec])
  all_goals
  refine sZ [2, 5] (fun P S K => XvFnIV P (M S.hp S.nx) (.fn 86 []) [(S.get 1)] (fun r1 e1 => K ⟨[(2, S.get 2), (5, r1)], (Eff.hp e1 S.nx S.hp), (S.nx + e1.add.length), S.gh⟩)) fun K hK => ?_
  repeat' (first | (refine hK _ ?_; clear hK K) | ((first | refine xG_intro (fun hg => ?_) (fun hg => ?_) | refine fun (hg : (_ : Prop)) => ?_) <;> ((try simp only [BQ] at hg); try (exfalso; omega))) | refine And.intro ?_ ?_ | exact cl | refine one_take ?_ _ | refine one_drop ?_ _ | refine .inl ⟨_, _, Words_pure t ht, ?_⟩ | refine ⟨_, _, Words_pure t ht, ?_⟩ | (refine st ?_; try simp only [encSpec]) | simp only [encSpec])
  all_goals
  refine sY [2, 5, 6] (fun P S K => K ⟨[(2, S.get 2), (5, S.get 5), (6, (.atom (.int .i64 0)))], S.hp, S.nx, S.gh⟩) ?_
  all_goals
  refine Tri.seq ?_
  refine Tri.block ?_
  refine Tri.loop (α := (k : Nat) ×' (k ≤ (wordsS t).length ∧ counted s t = dropSkip s.skip ((wordsS t).drop k))) (fun z => (fun (k : Nat) => (⟨[(2, .ptr 0 4 0 0), (5, strs (wordsS t)), (6, encI k)], [(0, some ⟨4, [encSpec s]⟩)], 1, []⟩ : St)) z.1) (fun z => (fun (k : Nat) => (wordsS t).length - k) z.1) ⟨0, ⟨by omega, rfl⟩⟩ [0] ?_ ?_
  ·exact leqW6
  ·rintro ⟨k, ⟨hk, hb⟩⟩
   refine Tri.seq ?_
   refine sD 13 [2, 5, 6, 21] (fun P GD S K => XvBinOV P .add 3 (.const (.int .i64 1)) (S.get 6) (.atom (.int .i64 1)) (fun r1 e1 => XvLen P 25 (S.get 5) (fun r3 e3 => XvBinOV P .lss 3 (.tmp 12) r1 r3 (fun r4 e4 => Xge r4 true (fun k => XvLoad P 35 (M S.hp S.nx) (S.get 2) k) (fun g6 r6 e6 => Xge g6 true (fun k => k (S.get 5) e0) (fun g7 r7 e7 => Xge g7 true (fun k => k (S.get 6) e0) (fun g8 r8 e8 => Xge g8 true (fun k => XvIndexAddr P 25 r7 r8 k) (fun g9 r9 e9 => Xge g9 true (fun k => XvLoad P 9 (M S.hp S.nx) r9 k) (fun g10 r10 e10 => Xge g10 true (fun k => XvFnV P (M S.hp S.nx) (.fn 87 []) [r6, r10] k) (fun g11 r11 e11 => XvPick g11 r11 (.atom (.bool false)) (fun r12 e12 => (trOk S.nx GD [⟨S.nx, 0, [], [], []⟩, ⟨S.nx, 0, e1.rd, [], []⟩, ⟨S.nx, 0, [], [], []⟩, ⟨S.nx, 0, e3.rd, [], []⟩, ⟨S.nx, 0, e4.rd, [], []⟩, ⟨S.nx, 0, [], [], []⟩, ⟨S.nx, 0, e6.rd, [], []⟩, ⟨S.nx, 0, e7.rd, [], []⟩, ⟨S.nx, 0, e8.rd, [], []⟩, ⟨S.nx, 0, e9.rd, [], []⟩, ⟨S.nx, 0, e10.rd, [], []⟩, (Eff.tr e11 S.nx), ⟨(S.nx + e11.add.length), 0, e12.rd, [], []⟩] = true ∧ K ⟨[(2, S.get 2), (5, S.get 5), (6, S.get 6), (21, r12)], (Eff.hp e11 S.nx S.hp), (S.nx + e11.add.length), S.gh⟩)))))))))))) fun K hK => ?_
   repeat' (first | (refine hK _ ?_; clear hK K) | (refine (?_ : trOk _ _ _ = true); kernel_rfl) | ((first | refine xG_intro (fun hg => ?_) (fun hg => ?_) | refine fun (hg : (_ : Prop)) => ?_) <;> ((try simp only [BQ] at hg); try (exfalso; omega))) | refine And.intro ?_ ?_ | exact cl | refine one_take ?_ _ | refine one_drop ?_ _ | refine .inl ⟨_, _, skipped_pure s (ls (wordsS t) k) hs (Nat.le_trans (hws _ (ls_mem (by omega))) ht), ?_⟩ | refine ⟨_, _, skipped_pure s (ls (wordsS t) k) hs (Nat.le_trans (hws _ (ls_mem (by omega))) ht), ?_⟩ | (refine st ?_; try simp only [encSpec, wrap_id (x := ((k : Int) + 1)) (by omega) (by omega)]; try simp only [encSpec, getD_encS (show k < (wordsS t).length by omega)]) | simp only [encSpec, wrap_id (x := ((k : Int) + 1)) (by omega) (by omega)] | simp only [encSpec, getD_encS (show k < (wordsS t).length by omega)])
   all_goals try simp (disch := omega) only [wrap_id, wrap8_id]
   all_goals
   refine Tri.cond rfl (fun h21 => ?_) (fun h21 => ?_)
   ·try (cases h21; done)
    all_goals (try simp only [CQ] at h21)
    all_goals
    refine Tri.skip ?_
    refine Tri.block ?_
    refine rY [2, 5, 6] (fun P S K => XvBinOV P .add 3 (.const (.int .i64 1)) (S.get 6) (.atom (.int .i64 1)) (fun r1 _ => K ⟨[(2, S.get 2), (5, S.get 5), (6, r1)], S.hp, S.nx, S.gh⟩)) ?_
    all_goals try simp (disch := omega) only [wrap_id, wrap8_id]
    all_goals
    refine ⟨⟨k + 1, by omega, ?_⟩, [0], by dsimp only; omega, ?_⟩
    · rw [hb, drop_ls (show k < (wordsS t).length by omega), dropSkip_yes (by rw [List.length_drop]; omega) h21]
    · exact leqW6
   ·try (cases h21; done)
    all_goals (try simp only [CQ] at h21)
    all_goals
    refine Tri.exit ?_
    refine sZ [4] (fun P S K => XvSliceV P 25 (S.get 5) (some (S.get 6)) none (fun r2 _ => K ⟨[(4, r2)], S.hp, S.nx, S.gh⟩)) fun K hK => ?_
    repeat' (first | (refine hK _ ?_; clear hK K) | ((first | refine xG_intro (fun hg => ?_) (fun hg => ?_) | refine fun (hg : (_ : Prop)) => ?_) <;> ((try simp only [BQ] at hg); try (exfalso; omega))) | refine And.intro ?_ ?_ | exact cl | refine one_take ?_ _ | refine one_drop ?_ _ | (refine st ?_; try simp only [encSpec, drop_words]) | simp only [encSpec, drop_words])
    all_goals
    refine Tri.ret ?_
    show ResOk _ _ _ _
    have he : counted s t = (wordsS t).drop k := by
      rw [hb]
      first
        | (rw [drop_ls (show k < (wordsS t).length by omega), dropSkip_no h21]; done)
        | exact dropSkip_short (by rw [List.length_drop]; omega)
    rw [he]
    exact ResOk.frz 5 (by simp [retV, St.get, lk, sealed, strs, take_drop_len]) (pure_strs _)
def bl (w : ByteArray) : List UInt8 := w.data.toList
theorem bl_len (w : ByteArray) : (bl w).length = w.size := by simp [bl]
theorem drop_bl {w : ByteArray} {k : Nat} (h : k < w.size) : (bl w).drop k = byteAt w k :: (bl w).drop (k + 1) := by
  have h' : k < (bl w).length := by rw [bl_len]; exact h
  have : byteAt w k = (bl w)[k] := by show (bl w).getD k 0 = _; simp [List.getD_eq_getElem?_getD, h']
  rw [this]; exact List.drop_eq_getElem_cons h'
theorem drop_bl_end {w : ByteArray} {k : Nat} (h : w.size ≤ k) : (bl w).drop k = [] := List.drop_eq_nil_of_le (by rw [bl_len]; exact h)
def zero8 (c : UInt8) : Bool := decide (c = 48)
def digOf (c : UInt8) : Int := (c.toNat : Int) - 48
def numOf (ds : List UInt8) : List Int := (ds.dropWhile zero8).map digOf
def zerosOf (ds : List UInt8) : Int := ((ds.length - (ds.dropWhile zero8).length : Nat) : Int)
noncomputable def wordF (s : SpecD) : Nat → List UInt8 → List Int × List Int
  | 0, _ => ([], [])
  | _ + 1, [] => ([], [])
  | f + 1, c :: t =>
    if s.numbers && isDig c then
      (1 :: ((numOf ((c :: t).takeWhile isDig)).length : Int) :: (numOf ((c :: t).takeWhile isDig) ++ (wordF s f ((c :: t).dropWhile isDig)).1), zerosOf ((c :: t).takeWhile isDig) :: (wordF s f ((c :: t).dropWhile isDig)).2)
    else if 0 ≤ (grp s c).1 then ((2 + (grp s c).1) :: (wordF s f t).1, (grp s c).2 :: (wordF s f t).2) else wordF s f t
noncomputable def wordS (s : SpecD) (w : ByteArray) : List Int × List Int := wordF s w.size (bl w)
structure WordI (s : SpecD) (w : ByteArray) (k : Nat) (a b : List Int) : Prop where
  le : k ≤ w.size
  la : a.length ≤ 3 * k
  lb : b.length ≤ k
  core : ∃ f, w.size - k ≤ f ∧ wordS s w = (a ++ (wordF s f ((bl w).drop k)).1, b ++ (wordF s f ((bl w).drop k)).2)
theorem WordI.start (s : SpecD) (w : ByteArray) : WordI s w 0 [] [] := ⟨Nat.zero_le _, Nat.le_refl _, Nat.le_refl _, w.size, Nat.le_refl _, rfl⟩
theorem wordF_nil (s : SpecD) (f : Nat) : wordF s f [] = ([], []) := by cases f <;> rfl
theorem WordI.done {s : SpecD} {w : ByteArray} {k : Nat} {a b : List Int} (h : WordI s w k a b) (hk : w.size ≤ k) : wordS s w = (a, b) := by
  obtain ⟨f, _, he⟩ := h.core
  rw [he, drop_bl_end hk, wordF_nil]; simp
theorem WordI.group {s : SpecD} {w : ByteArray} {k : Nat} {a b : List Int} (h : WordI s w k a b) (hk : k < w.size) (hn : (s.numbers && isDig (byteAt w k)) = false) (hg : 0 ≤ (grp s (byteAt w k)).1) :
    WordI s w (k + 1) (a ++ [2 + (grp s (byteAt w k)).1]) (b ++ [(grp s (byteAt w k)).2]) := by
  obtain ⟨f, hf, he⟩ := h.core
  refine ⟨hk, by have := h.la; simp; omega, by have := h.lb; simp; omega, f - 1, by omega, ?_⟩
  obtain ⟨f, rfl⟩ : ∃ g, f = g + 1 := ⟨f - 1, by omega⟩
  rw [he, drop_bl hk, wordF, if_neg (by rw [hn]; decide), if_pos hg]
  simp
theorem WordI.none {s : SpecD} {w : ByteArray} {k : Nat} {a b : List Int} (h : WordI s w k a b) (hk : k < w.size) (hn : (s.numbers && isDig (byteAt w k)) = false) (hg : ¬ 0 ≤ (grp s (byteAt w k)).1) :
    WordI s w (k + 1) a b := by
  obtain ⟨f, hf, he⟩ := h.core
  refine ⟨hk, by have := h.la; omega, by have := h.lb; omega, f - 1, by omega, ?_⟩
  obtain ⟨f, rfl⟩ : ∃ g, f = g + 1 := ⟨f - 1, by omega⟩
  rw [he, drop_bl hk, wordF, if_neg (by rw [hn]; decide), if_neg hg]
  simp
structure DigI (w : ByteArray) (k0 k : Nat) (ds : List UInt8) : Prop where
  le : k ≤ w.size
  split : (bl w).drop k0 = ds ++ (bl w).drop k
  len : ds.length + k0 = k
  dig : ∀ c, c ∈ ds → isDig c = true
theorem DigI.start {w : ByteArray} {k : Nat} (h : k ≤ w.size) : DigI w k k [] := ⟨h, rfl, by simp, fun c hc => by simp at hc⟩
theorem DigI.next {w : ByteArray} {k0 k : Nat} {ds : List UInt8} (h : DigI w k0 k ds) (hk : k < w.size) (hd : isDig (byteAt w k) = true) : DigI w k0 (k + 1) (ds ++ [byteAt w k]) :=
  ⟨hk, by rw [h.split, drop_bl hk]; simp, by have := h.len; simp; omega, fun c hc => by
    rcases List.mem_append.1 hc with hc | hc
    · exact h.dig c hc
    · rw [List.mem_singleton.1 hc]; exact hd⟩
theorem dropWhile_snoc (p : UInt8 → Bool) (ds : List UInt8) (c : UInt8) : (ds ++ [c]).dropWhile p = if ds.dropWhile p = [] then (if p c then [] else [c]) else ds.dropWhile p ++ [c] := by
  induction ds with
  | nil => simp [List.dropWhile]; cases p c <;> rfl
  | cons d ds ih =>
    rw [List.cons_append, List.dropWhile_cons, List.dropWhile_cons]
    cases hp : p d
    · simp
    · simp only [if_true]; exact ih
theorem numOf_zero {ds : List UInt8} {c : UInt8} (h : (numOf ds).length = 0) (hc : c = 48) : numOf (ds ++ [c]) = numOf ds ∧ zerosOf (ds ++ [c]) = zerosOf ds + 1 := by
  have h0 : ds.dropWhile zero8 = [] := by unfold numOf at h; rw [List.length_map] at h; exact List.length_eq_zero_iff.1 h
  have hz : zero8 c = true := by unfold zero8; exact decide_eq_true hc
  have e : (ds ++ [c]).dropWhile zero8 = [] := by rw [dropWhile_snoc, if_pos h0, if_pos hz]
  unfold numOf zerosOf
  rw [e, h0]; simp
theorem dropWhile_le (p : UInt8 → Bool) (ds : List UInt8) : (ds.dropWhile p).length ≤ ds.length := (List.dropWhile_sublist p).length_le
theorem numOf_digit {ds : List UInt8} {c : UInt8} (h : ¬ ((numOf ds).length = 0 ∧ c = 48)) : numOf (ds ++ [c]) = numOf ds ++ [digOf c] ∧ zerosOf (ds ++ [c]) = zerosOf ds := by
  have e : (ds ++ [c]).dropWhile zero8 = ds.dropWhile zero8 ++ [c] := by
    rw [dropWhile_snoc]
    by_cases h0 : ds.dropWhile zero8 = []
    · rw [if_pos h0, if_neg, h0]; rfl
      intro hz
      refine h ⟨?_, of_decide_eq_true hz⟩
      unfold numOf; rw [h0]; rfl
    · rw [if_neg h0]
  unfold numOf zerosOf
  rw [e]
  simp
theorem take_digs {ds r : List UInt8} (hd : ∀ c, c ∈ ds → isDig c = true) (hr : r = [] ∨ ∃ c t, r = c :: t ∧ isDig c = false) : (ds ++ r).takeWhile isDig = ds ∧ (ds ++ r).dropWhile isDig = r := by
  induction ds with
  | nil =>
    rcases hr with rfl | ⟨c, t, rfl, hc⟩
    · simp
    · simp [List.takeWhile_cons, List.dropWhile_cons, hc]
  | cons d ds ih =>
    have := ih (fun c hc => hd c (List.mem_cons_of_mem _ hc))
    have h0 := hd d (List.mem_cons_self ..)
    rw [List.cons_append, List.takeWhile_cons, List.dropWhile_cons, h0]
    simp [this.1, this.2]
theorem WordI.num {s : SpecD} {w : ByteArray} {k0 k : Nat} {a b : List Int} {ds : List UInt8} (h : WordI s w k0 a b) (hk : k0 < w.size) (hn : s.numbers = true) (hd : isDig (byteAt w k0) = true) (hD : DigI w k0 k ds) (he : w.size ≤ k ∨ isDig (byteAt w k) = false) :
    WordI s w k (a ++ [1, ((numOf ds).length : Int)] ++ numOf ds) (b ++ [zerosOf ds]) ∧ k0 < k := by
  obtain ⟨f, hf, hw⟩ := h.core
  have hr : (bl w).drop k = [] ∨ ∃ c t, (bl w).drop k = c :: t ∧ isDig c = false := by
    by_cases hkk : w.size ≤ k
    · exact .inl (drop_bl_end hkk)
    · exact .inr ⟨_, _, drop_bl (by omega), he.resolve_left hkk⟩
  obtain ⟨t1, t2⟩ := take_digs hD.dig hr
  have hlt : k0 < k := by
    rcases Nat.lt_or_ge k0 k with h1 | h1
    · exact h1
    · have := hD.len
      have hkk : k = k0 := by omega
      subst hkk
      rcases he with h2 | h2
      · omega
      · rw [hd] at h2; cases h2
  have hnl : (numOf ds).length ≤ ds.length := by unfold numOf; rw [List.length_map]; exact dropWhile_le _ _
  have := hD.len
  have := hD.le
  refine ⟨⟨hD.le, by have := h.la; simp; omega, by have := h.lb; simp; omega, f - 1, by omega, ?_⟩, hlt⟩
  obtain ⟨f, rfl⟩ : ∃ g, f = g + 1 := ⟨f - 1, by omega⟩
  rw [hw]
  have e2 := hD.split
  rw [drop_bl hk] at e2 ⊢
  rw [wordF, if_pos (by rw [hn, hd]; rfl), e2, t1, t2]
  simp
theorem zerosOf_range (ds : List UInt8) : 0 ≤ zerosOf ds ∧ zerosOf ds ≤ ds.length := by unfold zerosOf; omega
open Classical in
theorem grp_range (s : SpecD) (c : UInt8) : -1 ≤ (grp s c).1 ∧ (grp s c).1 < s.order.length := by
  unfold grp
  split
  · rename_i h
    have := (Classical.choose_spec h).1.1
    simp only
    omega
  · simp only; omega
theorem isDig_num {c : UInt8} (h : isDig c = true) : 48 ≤ c.toNat ∧ c.toNat ≤ 57 := of_decide_eq_true h
theorem u8_48 {c : UInt8} (h : (c.toNat : Int) = 48) : c = 48 := UInt8.toNat_inj.1 (by show c.toNat = 48; omega)
theorem u8_n48 {c : UInt8} (h : ¬ (c.toNat : Int) = 48) : ¬ c = 48 := fun e => h (by rw [e]; rfl)
theorem word_pure (s : SpecD) (w : ByteArray) (hs : Sane s) (hw : w.size ≤ 4294967296) : Pure Tryd.prog 71 [encSpec s, encS w] (.tup [ints (wordS s w).1, ints (wordS s w).2]) [] := by
  refine Pure.intro (ts := [4, 5]) Tryd.func71 (by kernel_rfl) rfl rfl rfl (Nat.le_of_ble_eq_true rfl) ?_ ?_
  · simp [encB, encS, encSpec, PV.pure, pureL, pure_strs]
  refine sZ [1, 2] (fun P S K => XvBox S.nx (S.get 0) (fun r0 e0 => K ⟨[(1, S.get 1), (2, r0)], (Eff.hp e0 S.nx S.hp), (S.nx + e0.add.length), S.gh⟩)) fun K hK => ?_
  repeat' (first | (refine hK _ ?_; clear hK K) | ((first | refine xG_intro (fun hg => ?_) (fun hg => ?_) | refine fun (hg : (_ : Prop)) => ?_) <;> ((try simp only [BQ] at hg); try (exfalso; omega))) | refine And.intro ?_ ?_ | exact cl | refine one_take ?_ _ | refine one_drop ?_ _ | (refine st ?_; try simp only [encSpec]) | simp only [encSpec])
  all_goals
  refine sY [1, 2, 6] (fun P S K => K ⟨[(1, S.get 1), (2, S.get 2), (6, (.atom (.slice none 0 0)))], S.hp, S.nx, S.gh⟩) ?_
  refine Tri.born 6 1 rfl ?_
  all_goals
  refine sY [1, 2, 6, 7] (fun P S K => K ⟨[(1, S.get 1), (2, S.get 2), (6, S.get 6), (7, (.atom (.slice none 0 0)))], S.hp, S.nx, S.gh⟩) ?_
  refine Tri.born 7 1 rfl ?_
  all_goals
  refine sY [1, 2, 6, 7, 8] (fun P S K => K ⟨[(1, S.get 1), (2, S.get 2), (6, S.get 6), (7, S.get 7), (8, (.atom (.int .i64 0)))], S.hp, S.nx, S.gh⟩) ?_
  all_goals
  refine Tri.seq ?_
  refine Tri.block ?_
  refine Tri.loop (α := (a : List Int) ×' (b : List Int) ×' (k : Nat) ×' (WordI s w k a b)) (fun z => (fun (a : List Int) (b : List Int) (k : Nat) => (⟨[(1, encS w), (2, .ptr 0 4 0 0), (6, .ob 1 1 0 a.length), (7, .ob 2 1 0 b.length), (8, encI k)], [(0, some ⟨4, [encSpec s]⟩), (1, some ⟨1, a.map encI⟩), (2, some ⟨1, b.map encI⟩)], 3, []⟩ : St)) z.1 z.2.1 z.2.2.1) (fun z => (fun (a : List Int) (b : List Int) (k : Nat) => w.size - k) z.1 z.2.1 z.2.2.1) ⟨[], [], 0, WordI.start s w⟩ [0, 1, 2] ?_ ?_
  ·exact leqW6
  ·rintro ⟨a, b, k, hW⟩
   have hla := hW.la
   have hlb := hW.lb
   have hle := hW.le
   refine Tri.seq ?_
   refine sZ [1, 2, 6, 7, 8, 16] (fun P S K => XvLen P 9 (S.get 1) (fun r2 _ => XvBinOV P .lss 3 (.tmp 15) (S.get 8) r2 (fun r3 _ => K ⟨[(1, S.get 1), (2, S.get 2), (6, S.get 6), (7, S.get 7), (8, S.get 8), (16, r3)], S.hp, S.nx, S.gh⟩))) fun K hK => ?_
   repeat' (first | (refine hK _ ?_; clear hK K) | ((first | refine xG_intro (fun hg => ?_) (fun hg => ?_) | refine fun (hg : (_ : Prop)) => ?_) <;> ((try simp only [BQ] at hg); try (exfalso; omega))) | refine And.intro ?_ ?_ | exact cl | refine one_take ?_ _ | refine one_drop ?_ _ | (refine st ?_; try simp only [encSpec]) | simp only [encSpec])
   all_goals
   refine Tri.cond rfl (fun h16 => ?_) (fun h16 => ?_)
   ·try (cases h16; done)
    all_goals (try simp only [CQ] at h16)
    all_goals
    refine Tri.skip ?_
    refine Tri.block ?_
    refine Tri.seq ?_
    refine sZ [1, 2, 6, 7, 8, 24] (fun P S K => XvFieldAddr P 35 2 (S.get 2) (fun r0 _ => XvLoad P 4 (M S.hp S.nx) r0 (fun r1 _ => Xgq r1 true (fun k => k (S.get 1)) (fun g3 r3 => Xgq g3 true (fun k => k (S.get 8)) (fun g4 r4 => Xgq g4 true (fun k => XvIndex P 9 r3 r4 (fun r5 _ => k r5)) (fun g5 r5 => Xge g5 true (fun k => XvFnIV P (M S.hp S.nx) (.fn 88 []) [r5] k) (fun g6 r6 e6 => XvPick g6 r6 (.atom (.bool false)) (fun r7 _ => K ⟨[(1, S.get 1), (2, S.get 2), (6, S.get 6), (7, S.get 7), (8, S.get 8), (24, r7)], (Eff.hp e6 S.nx S.hp), (S.nx + e6.add.length), S.gh⟩)))))))) fun K hK => ?_
    repeat' (first | (refine hK _ ?_; clear hK K) | ((first | refine xG_intro (fun hg => ?_) (fun hg => ?_) | refine fun (hg : (_ : Prop)) => ?_) <;> ((try simp only [BQ] at hg); try (exfalso; omega))) | refine And.intro ?_ ?_ | exact cl | refine one_take ?_ _ | refine one_drop ?_ _ | refine .inl ⟨_, _, rdigit_pure _, ?_⟩ | refine ⟨_, _, rdigit_pure _, ?_⟩ | (refine st ?_; try simp only [encSpec]) | simp only [encSpec])
    all_goals
    refine Tri.cond rfl (fun h24 => ?_) (fun h24 => ?_)
    ·try (cases h24; done)
     all_goals (try simp only [CQ] at h24)
     all_goals
     refine sY [1, 2, 6, 7, 8, 9] (fun P S K => K ⟨[(1, S.get 1), (2, S.get 2), (6, S.get 6), (7, S.get 7), (8, S.get 8), (9, (.atom (.int .i64 0)))], S.hp, S.nx, S.gh⟩) ?_
     all_goals
     refine sY [1, 2, 6, 7, 8, 9, 10] (fun P S K => K ⟨[(1, S.get 1), (2, S.get 2), (6, S.get 6), (7, S.get 7), (8, S.get 8), (9, S.get 9), (10, (.atom (.slice none 0 0)))], S.hp, S.nx, S.gh⟩) ?_
     refine Tri.born 10 1 rfl ?_
     all_goals
     refine Tri.seq ?_
     refine Tri.block ?_
     refine Tri.loop (α := (ds : List UInt8) ×' (j : Nat) ×' (DigI w k j ds)) (fun z => (fun (ds : List UInt8) (j : Nat) => (⟨[(1, encS w), (2, .ptr 0 4 0 0), (6, .ob 1 1 0 a.length), (7, .ob 2 1 0 b.length), (8, encI j), (9, encI (zerosOf ds)), (10, .ob 3 1 0 (numOf ds).length)], [(0, some ⟨4, [encSpec s]⟩), (1, some ⟨1, a.map encI⟩), (2, some ⟨1, b.map encI⟩), (3, some ⟨1, (numOf ds).map encI⟩)], 4, []⟩ : St)) z.1 z.2.1) (fun z => (fun (ds : List UInt8) (j : Nat) => w.size - j) z.1 z.2.1) ⟨[], k, DigI.start (by omega)⟩ [0, 1, 2, 3] ?_ ?_
     ·exact leqW6
     ·rintro ⟨ds, j, hD⟩
      have hnl : (numOf ds).length ≤ ds.length := by unfold numOf; rw [List.length_map]; exact dropWhile_le _ _
      have hdl := hD.len
      have hde := hD.le
      have hzr := zerosOf_range ds
      refine Tri.seq ?_
      refine sZ [1, 2, 6, 7, 8, 9, 10, 34] (fun P S K => XvLen P 9 (S.get 1) (fun r2 _ => XvBinOV P .lss 3 (.tmp 27) (S.get 8) r2 (fun r3 _ => Xgq r3 true (fun k => k (S.get 1)) (fun g5 r5 => Xgq g5 true (fun k => k (S.get 8)) (fun g6 r6 => Xgq g6 true (fun k => XvIndex P 9 r5 r6 (fun r7 _ => k r7)) (fun g7 r7 => Xge g7 true (fun k => XvFnIV P (M S.hp S.nx) (.fn 88 []) [r7] k) (fun g8 r8 e8 => XvPick g8 r8 (.atom (.bool false)) (fun r9 _ => K ⟨[(1, S.get 1), (2, S.get 2), (6, S.get 6), (7, S.get 7), (8, S.get 8), (9, S.get 9), (10, S.get 10), (34, r9)], (Eff.hp e8 S.nx S.hp), (S.nx + e8.add.length), S.gh⟩)))))))) fun K hK => ?_
      repeat' (first | (refine hK _ ?_; clear hK K) | ((first | refine xG_intro (fun hg => ?_) (fun hg => ?_) | refine fun (hg : (_ : Prop)) => ?_) <;> ((try simp only [BQ] at hg); try (exfalso; omega))) | refine And.intro ?_ ?_ | exact cl | refine one_take ?_ _ | refine one_drop ?_ _ | refine .inl ⟨_, _, rdigit_pure _, ?_⟩ | refine ⟨_, _, rdigit_pure _, ?_⟩ | (refine st ?_; try simp only [encSpec]) | simp only [encSpec])
      all_goals
      refine Tri.cond rfl (fun h34 => ?_) (fun h34 => ?_)
      ·try (cases h34; done)
       all_goals (try simp only [CQ] at h34)
       all_goals
       refine Tri.skip ?_
       refine Tri.block ?_
       refine Tri.seq ?_
       refine sZ [1, 2, 6, 7, 8, 9, 10, 43] (fun P S K => XvLen P 22 (S.get 10) (fun r1 _ => XvBinOV P .eql 3 (.const (.int .i64 0)) r1 (.atom (.int .i64 0)) (fun r2 _ => Xgq r2 true (fun k => k (S.get 1)) (fun g4 r4 => Xgq g4 true (fun k => k (S.get 8)) (fun g5 r5 => Xgq g5 true (fun k => XvIndex P 9 r4 r5 (fun r6 _ => k r6)) (fun g6 r6 => Xgq g6 true (fun k => XvBinOV P .eql 5 (.const (.int .u8 48)) r6 (.atom (.int .u8 48)) (fun r7 _ => k r7)) (fun g7 r7 => XvPick g7 r7 (.atom (.bool false)) (fun r8 _ => K ⟨[(1, S.get 1), (2, S.get 2), (6, S.get 6), (7, S.get 7), (8, S.get 8), (9, S.get 9), (10, S.get 10), (43, r8)], S.hp, S.nx, S.gh⟩)))))))) fun K hK => ?_
       repeat' (first | (refine hK _ ?_; clear hK K) | ((first | refine xG_intro (fun hg => ?_) (fun hg => ?_) | refine fun (hg : (_ : Prop)) => ?_) <;> ((try simp only [BQ] at hg); try (exfalso; omega))) | refine And.intro ?_ ?_ | exact cl | refine one_take ?_ _ | refine one_drop ?_ _ | (refine st ?_; try simp only [encSpec]) | simp only [encSpec])
       all_goals
       refine Tri.cond rfl (fun h43 => ?_) (fun h43 => ?_)
       ·try (cases h43; done)
        all_goals (try simp only [CQ] at h43)
        all_goals
        refine rY [1, 2, 6, 7, 8, 9, 10] (fun P S K => XvBinOV P .add 3 (.const (.int .i64 1)) (S.get 9) (.atom (.int .i64 1)) (fun r1 _ => K ⟨[(1, S.get 1), (2, S.get 2), (6, S.get 6), (7, S.get 7), (8, S.get 8), (9, r1), (10, S.get 10)], S.hp, S.nx, S.gh⟩)) ?_
        all_goals try simp (disch := omega) only [wrap_id, wrap8_id]
        all_goals
        refine rY [1, 2, 6, 7, 8, 9, 10] (fun P S K => XvBinOV P .add 3 (.const (.int .i64 1)) (S.get 8) (.atom (.int .i64 1)) (fun r1 _ => K ⟨[(1, S.get 1), (2, S.get 2), (6, S.get 6), (7, S.get 7), (8, r1), (9, S.get 9), (10, S.get 10)], S.hp, S.nx, S.gh⟩)) ?_
        all_goals try simp (disch := omega) only [wrap_id, wrap8_id]
        all_goals
        first
        | (have hno := numOf_digit (ds := ds) (c := byteAt w j) (by rintro ⟨e1, e2⟩; first | exact u8_n48 h43 e2 | omega)
           refine ⟨⟨ds ++ [byteAt w j], j + 1, hD.next (by omega) h34⟩, [0, 1, 2, 5], by dsimp only; omega, ?_⟩
           dsimp only
           rw [hno.1, hno.2]
           exact leqW6)
        | (have hno := numOf_zero (ds := ds) (c := byteAt w j) (by omega) (u8_48 h43)
           refine ⟨⟨ds ++ [byteAt w j], j + 1, hD.next (by omega) h34⟩, [0, 1, 2, 3], by dsimp only; omega, ?_⟩
           dsimp only
           rw [hno.1, hno.2]
           exact leqW6)
       ·try (cases h43; done)
        all_goals (try simp only [CQ] at h43)
        all_goals
        have hdn := isDig_num h34
        refine rZ [1, 2, 6, 7, 8, 9, 10] (fun P S K => XvIndex P 9 (S.get 1) (S.get 8) (fun r3 _ => XvBinOV P .sub 5 (.const (.int .u8 48)) r3 (.atom (.int .u8 48)) (fun r4 _ => XvConvert P 5 3 (M S.hp S.nx) r4 (fun r5 e5 => XvBuildS P 22 1 (S.nx + e5.add.length) [(0, r5)] (fun r6 e6 => (22 = 22 ∧ XvAppend P 22 (M (Eff.hp e6 (S.nx + e5.add.length) (Eff.hp e5 S.nx S.hp)) ((S.nx + e5.add.length) + e6.add.length)) (S.get 10) r6 (fun r7 e7 => K ⟨[(1, S.get 1), (2, S.get 2), (6, S.get 6), (7, S.get 7), (8, S.get 8), (9, S.get 9), (10, r7)], (Eff.hp e7 ((S.nx + e5.add.length) + e6.add.length) (Eff.hp e6 (S.nx + e5.add.length) (Eff.hp e5 S.nx S.hp))), (((S.nx + e5.add.length) + e6.add.length) + e7.add.length), S.gh⟩))))))) fun K hK => ?_
        repeat' (first | (refine hK _ ?_; clear hK K) | ((first | refine xG_intro (fun hg => ?_) (fun hg => ?_) | refine fun (hg : (_ : Prop)) => ?_) <;> ((try simp only [BQ] at hg); try (exfalso; omega))) | refine And.intro ?_ ?_ | exact cl | refine one_take ?_ _ | refine one_drop ?_ _ | (refine st ?_; try simp only [encSpec]) | simp only [encSpec])
        all_goals try simp (disch := omega) only [wrap_id, wrap8_id]
        all_goals
        refine rY [1, 2, 6, 7, 8, 9, 10] (fun P S K => XvBinOV P .add 3 (.const (.int .i64 1)) (S.get 8) (.atom (.int .i64 1)) (fun r1 _ => K ⟨[(1, S.get 1), (2, S.get 2), (6, S.get 6), (7, S.get 7), (8, r1), (9, S.get 9), (10, S.get 10)], S.hp, S.nx, S.gh⟩)) ?_
        all_goals try simp (disch := omega) only [wrap_id, wrap8_id]
        all_goals
        first
        | (have hno := numOf_digit (ds := ds) (c := byteAt w j) (by rintro ⟨e1, e2⟩; first | exact u8_n48 h43 e2 | omega)
           refine ⟨⟨ds ++ [byteAt w j], j + 1, hD.next (by omega) h34⟩, [0, 1, 2, 5], by dsimp only; omega, ?_⟩
           dsimp only
           rw [hno.1, hno.2]
           exact leqW6)
        | (have hno := numOf_zero (ds := ds) (c := byteAt w j) (by omega) (u8_48 h43)
           refine ⟨⟨ds ++ [byteAt w j], j + 1, hD.next (by omega) h34⟩, [0, 1, 2, 3], by dsimp only; omega, ?_⟩
           dsimp only
           rw [hno.1, hno.2]
           exact leqW6)
      ·try (cases h34; done)
       all_goals (try simp only [CQ] at h34)
       all_goals
       refine Tri.exit ?_
       have hnum := hW.num h16 (by assumption) h24 hD (by first | exact .inl (by omega) | exact .inr h34)
       refine sZ [1, 2, 6, 7, 8, 9] (fun P S K => XvLen P 22 (S.get 10) (fun r2 _ => XvBuildS P 22 2 S.nx [(0, (.atom (.int .i64 1))), (1, r2)] (fun r3 e3 => (22 = 22 ∧ XvAppend P 22 (M (Eff.hp e3 S.nx S.hp) (S.nx + e3.add.length)) (S.get 6) r3 (fun r4 e4 => (22 = 22 ∧ XvAppend P 22 (M (Eff.hp e4 (S.nx + e3.add.length) (Eff.hp e3 S.nx S.hp)) ((S.nx + e3.add.length) + e4.add.length)) r4 (S.get 10) (fun r6 e6 => K ⟨[(1, S.get 1), (2, S.get 2), (6, r6), (7, S.get 7), (8, S.get 8), (9, S.get 9)], (Eff.hp e6 ((S.nx + e3.add.length) + e4.add.length) (Eff.hp e4 (S.nx + e3.add.length) (Eff.hp e3 S.nx S.hp))), (((S.nx + e3.add.length) + e4.add.length) + e6.add.length), S.gh⟩))))))) fun K hK => ?_
       repeat' (first | (refine hK _ ?_; clear hK K) | ((first | refine xG_intro (fun hg => ?_) (fun hg => ?_) | refine fun (hg : (_ : Prop)) => ?_) <;> ((try simp only [BQ] at hg); try (exfalso; omega))) | refine And.intro ?_ ?_ | exact cl | refine one_take ?_ _ | refine one_drop ?_ _ | (refine st ?_; try simp only [encSpec]) | simp only [encSpec])
       all_goals
       refine sZ [1, 2, 6, 7, 8] (fun P S K => XvBuildS P 22 1 S.nx [(0, (S.get 9))] (fun r2 e2 => (22 = 22 ∧ XvAppend P 22 (M (Eff.hp e2 S.nx S.hp) (S.nx + e2.add.length)) (S.get 7) r2 (fun r3 e3 => K ⟨[(1, S.get 1), (2, S.get 2), (6, S.get 6), (7, r3), (8, S.get 8)], (Eff.hp e3 (S.nx + e2.add.length) (Eff.hp e2 S.nx S.hp)), ((S.nx + e2.add.length) + e3.add.length), S.gh⟩)))) fun K hK => ?_
       repeat' (first | (refine hK _ ?_; clear hK K) | ((first | refine xG_intro (fun hg => ?_) (fun hg => ?_) | refine fun (hg : (_ : Prop)) => ?_) <;> ((try simp only [BQ] at hg); try (exfalso; omega))) | refine And.intro ?_ ?_ | exact cl | refine one_take ?_ _ | refine one_drop ?_ _ | (refine st ?_; try simp only [encSpec]) | simp only [encSpec])
       all_goals
       refine Tri.exit ?_
       first
       | (refine ⟨⟨_, _, j, hnum.1⟩, [0, 6, 8], by have := hnum.2; dsimp only; omega, ?_⟩
          exact leqW6)
       | (refine ⟨⟨_, _, k + 1, hW.group h16 (by simp_all) h76⟩, [0, 4, 6], by dsimp only; omega, ?_⟩
          exact leqW6)
       | (refine ⟨⟨_, _, k + 1, hW.none h16 (by simp_all) h76⟩, [0, 1, 2], by dsimp only; omega, ?_⟩
          exact leqW6)
    ·try (cases h24; done)
     all_goals (try simp only [CQ] at h24)
     all_goals
     refine Tri.skip ?_
     refine sD 10 [1, 2, 6, 7, 8, 11, 12] (fun P GD S K => XvLoad P 35 (M S.hp S.nx) (S.get 2) (fun r0 e0 => XvIndex P 9 (S.get 1) (S.get 8) (fun r3 e3 => XvFnV P (M S.hp S.nx) (.fn 44 []) [r0, r3] (fun r4 e4 => XvExtract r4 0 (fun r6 e6 => XvExtract r4 1 (fun r7 e7 => (trOk S.nx GD [⟨S.nx, 0, e0.rd, [], []⟩, ⟨S.nx, 0, [], [], []⟩, ⟨S.nx, 0, [], [], []⟩, ⟨S.nx, 0, e3.rd, [], []⟩, (Eff.tr e4 S.nx), ⟨(S.nx + e4.add.length), 0, [], [], []⟩, ⟨(S.nx + e4.add.length), 0, e6.rd, [], []⟩, ⟨(S.nx + e4.add.length), 0, e7.rd, [], []⟩, ⟨(S.nx + e4.add.length), 0, [], [], []⟩, ⟨(S.nx + e4.add.length), 0, [], [], []⟩] = true ∧ K ⟨[(1, S.get 1), (2, S.get 2), (6, S.get 6), (7, S.get 7), (8, S.get 8), (11, r6), (12, r7)], (Eff.hp e4 S.nx S.hp), (S.nx + e4.add.length), S.gh⟩))))))) fun K hK => ?_
     repeat' (first | (refine hK _ ?_; clear hK K) | (refine (?_ : trOk _ _ _ = true); kernel_rfl) | ((first | refine xG_intro (fun hg => ?_) (fun hg => ?_) | refine fun (hg : (_ : Prop)) => ?_) <;> ((try simp only [BQ] at hg); try (exfalso; omega))) | refine And.intro ?_ ?_ | exact cl | refine one_take ?_ _ | refine one_drop ?_ _ | refine .inl ⟨_, _, Group_pure s (byteAt w k) hs, ?_⟩ | refine ⟨_, _, Group_pure s (byteAt w k) hs, ?_⟩ | (refine st ?_; try simp only [encSpec]) | simp only [encSpec])
     all_goals
     refine Tri.seq ?_
     refine sY [1, 2, 6, 7, 8, 11, 12, 76] (fun P S K => XvBinOV P .geq 3 (.const (.int .i64 0)) (S.get 11) (.atom (.int .i64 0)) (fun r1 _ => K ⟨[(1, S.get 1), (2, S.get 2), (6, S.get 6), (7, S.get 7), (8, S.get 8), (11, S.get 11), (12, S.get 12), (76, r1)], S.hp, S.nx, S.gh⟩)) ?_
     all_goals
     refine Tri.cond rfl (fun h76 => ?_) (fun h76 => ?_)
     ·try (cases h76; done)
      all_goals (try simp only [CQ] at h76)
      all_goals
      have hgr := grp_range s (byteAt w k)
      have hso := hs.order
      refine sZ [1, 2, 6, 7, 8, 12] (fun P S K => XvBinOV P .add 3 (.tmp 78) (.atom (.int .i64 2)) (S.get 11) (fun r2 _ => XvBuildS P 22 1 S.nx [(0, r2)] (fun r3 e3 => (22 = 22 ∧ XvAppend P 22 (M (Eff.hp e3 S.nx S.hp) (S.nx + e3.add.length)) (S.get 6) r3 (fun r4 e4 => K ⟨[(1, S.get 1), (2, S.get 2), (6, r4), (7, S.get 7), (8, S.get 8), (12, S.get 12)], (Eff.hp e4 (S.nx + e3.add.length) (Eff.hp e3 S.nx S.hp)), ((S.nx + e3.add.length) + e4.add.length), S.gh⟩))))) fun K hK => ?_
      repeat' (first | (refine hK _ ?_; clear hK K) | ((first | refine xG_intro (fun hg => ?_) (fun hg => ?_) | refine fun (hg : (_ : Prop)) => ?_) <;> ((try simp only [BQ] at hg); try (exfalso; omega))) | refine And.intro ?_ ?_ | exact cl | refine one_take ?_ _ | refine one_drop ?_ _ | (refine st ?_; try simp only [encSpec]) | simp only [encSpec])
      all_goals try simp (disch := omega) only [wrap_id, wrap8_id]
      all_goals
      refine rZ [1, 2, 6, 7, 8] (fun P S K => XvBuildS P 22 1 S.nx [(0, (S.get 12))] (fun r2 e2 => (22 = 22 ∧ XvAppend P 22 (M (Eff.hp e2 S.nx S.hp) (S.nx + e2.add.length)) (S.get 7) r2 (fun r3 e3 => K ⟨[(1, S.get 1), (2, S.get 2), (6, S.get 6), (7, r3), (8, S.get 8)], (Eff.hp e3 (S.nx + e2.add.length) (Eff.hp e2 S.nx S.hp)), ((S.nx + e2.add.length) + e3.add.length), S.gh⟩)))) fun K hK => ?_
      repeat' (first | (refine hK _ ?_; clear hK K) | ((first | refine xG_intro (fun hg => ?_) (fun hg => ?_) | refine fun (hg : (_ : Prop)) => ?_) <;> ((try simp only [BQ] at hg); try (exfalso; omega))) | refine And.intro ?_ ?_ | exact cl | refine one_take ?_ _ | refine one_drop ?_ _ | (refine st ?_; try simp only [encSpec]) | simp only [encSpec])
      all_goals
      refine rY [1, 2, 6, 7, 8] (fun P S K => XvBinOV P .add 3 (.const (.int .i64 1)) (S.get 8) (.atom (.int .i64 1)) (fun r1 _ => K ⟨[(1, S.get 1), (2, S.get 2), (6, S.get 6), (7, S.get 7), (8, r1)], S.hp, S.nx, S.gh⟩)) ?_
      all_goals try simp (disch := omega) only [wrap_id, wrap8_id]
      all_goals
      first
      | (refine ⟨⟨_, _, j, hnum.1⟩, [0, 6, 8], by have := hnum.2; dsimp only; omega, ?_⟩
         exact leqW6)
      | (refine ⟨⟨_, _, k + 1, hW.group h16 (by simp_all) h76⟩, [0, 4, 6], by dsimp only; omega, ?_⟩
         exact leqW6)
      | (refine ⟨⟨_, _, k + 1, hW.none h16 (by simp_all) h76⟩, [0, 1, 2], by dsimp only; omega, ?_⟩
         exact leqW6)
     ·try (cases h76; done)
      all_goals (try simp only [CQ] at h76)
      all_goals
      refine Tri.skip ?_
      refine rY [1, 2, 6, 7, 8] (fun P S K => XvBinOV P .add 3 (.const (.int .i64 1)) (S.get 8) (.atom (.int .i64 1)) (fun r1 _ => K ⟨[(1, S.get 1), (2, S.get 2), (6, S.get 6), (7, S.get 7), (8, r1)], S.hp, S.nx, S.gh⟩)) ?_
      all_goals try simp (disch := omega) only [wrap_id, wrap8_id]
      all_goals
      first
      | (refine ⟨⟨_, _, j, hnum.1⟩, [0, 6, 8], by have := hnum.2; dsimp only; omega, ?_⟩
         exact leqW6)
      | (refine ⟨⟨_, _, k + 1, hW.group h16 (by simp_all) h76⟩, [0, 4, 6], by dsimp only; omega, ?_⟩
         exact leqW6)
      | (refine ⟨⟨_, _, k + 1, hW.none h16 (by simp_all) h76⟩, [0, 1, 2], by dsimp only; omega, ?_⟩
         exact leqW6)
   ·try (cases h16; done)
    all_goals (try simp only [CQ] at h16)
    all_goals
    refine Tri.exit ?_
    have hfin := hW.done (by omega)
    refine sY [4, 5] (fun P S K => K ⟨[(4, (S.get 6)), (5, (S.get 7))], S.hp, S.nx, S.gh⟩) ?_
    all_goals
    refine Tri.ret ?_
    show ResOk _ _ _ _
    rw [hfin]
    exact ResOk.frz 5 lstW6 lpvW6
end Go.Proofs.YtfnkciboencifaaDoor
