/-
  Walks: Spoilt of the reference model.
-/
import Derived.Test.YtfnkciboencifaaDoorOW1
import Derived.Test.YtfnkciboencifaaDoorOW21
set_option linter.all false
namespace Go.Proofs.YtfnkciboencifaaDoor
open Go Go.RowKit
set_option linter.unusedSimpArgs false
set_option linter.unusedVariables false
set_option maxRecDepth 20000
set_option maxHeartbeats 400000
theorem leqW22 {p : Prop} (h : p := by (refine ⟨4, ?_, ?_, rfl, by simp, rfl, fun _ h _ => absurd h (Nat.not_lt_zero _)⟩ <;> (simp only [List.forall_mem_cons]; repeat' (first | refine And.intro ?_ ?_ | (intro p hp; exact absurd hp List.not_mem_nil) | rfl | exact (sealed_pure _ _ _ (pure_ints _)).trans (ren_ints _ _).symm | exact (sealed_pure _ _ _ (pure_strs _)).trans (ren_strs _ _).symm | exact sp (by assumption) | (intro o ho; cases ho; refine ⟨by decide, ?_⟩; first | (refine LeqS.row rfl ?_ ?_; (next => (first | rfl | (simp only [List.map_append, List.map_cons, List.map_nil, List.append_nil, List.nil_append, List.append_assoc, List.cons_append, encI, encS, ints, strs]; done) | (simp [encI, encS, ints, strs, xS, ordX_0]; done))); (next => (first | rfl | exact pureL_encI _ | exact pureL_encS _ | exact pureL_ints _ | exact pureL_strs _ | (simp [pureL_append, pureL_encI, pureL_encS, pureL_ints, pureL_strs, pureL, PV.pure, pure_ints, pure_strs]; done))); done) | refine ⟨_, rfl, rfl, ?_⟩) | (simp [St.born, St.known, retV, St.get, St.obj, lk, sealed, PV.ren, renL, rmap, AO.ren, ints, strs, encI, encS, map_sealed_encI, map_sealed_encS, map_sealed_ints, map_sealed_strs, map_ren_encI, map_ren_encS, map_ren_ints, map_ren_strs, renL_encI, renL_encS, renL_ints, renL_strs] <;> omega))))) : p := h
def xS : ByteArray := ⟨#[120]⟩
def abS : ByteArray := ⟨#[97, 98]⟩
def sp7 : List ByteArray := [⟨#[]⟩, ⟨#[84, 104, 101]⟩, ⟨#[111, 102]⟩, ⟨#[97, 98, 99, 100, 101, 102, 103, 104, 105, 106, 107, 108, 109, 110, 111, 112, 113, 114, 115, 116, 117, 118, 119, 120, 121]⟩, ⟨#[97, 98, 99, 100, 101, 102, 103, 104, 105, 106, 107, 108, 109, 110, 111, 112, 113, 114, 115, 116, 117, 118, 119, 120]⟩, ⟨#[97, 32, 98]⟩, ⟨#[120, 49]⟩]
theorem sp7_get {k : Nat} (h : k < 7) : List.getD [PV.atom (.string ⟨#[]⟩), .atom (.string ⟨#[84, 104, 101]⟩), .atom (.string ⟨#[111, 102]⟩), .atom (.string ⟨#[97, 98, 99, 100, 101, 102, 103, 104, 105, 106, 107, 108, 109, 110, 111, 112, 113, 114, 115, 116, 117, 118, 119, 120, 121]⟩), .atom (.string ⟨#[97, 98, 99, 100, 101, 102, 103, 104, 105, 106, 107, 108, 109, 110, 111, 112, 113, 114, 115, 116, 117, 118, 119, 120]⟩), .atom (.string ⟨#[97, 32, 98]⟩), .atom (.string ⟨#[120, 49]⟩)] k .junk = .atom (.string (ls sp7 k)) := getD_encS (l := sp7) h
def sp8 : List ByteArray := [⟨#[]⟩, ⟨#[32]⟩, ⟨#[127]⟩, ⟨#[97]⟩, ⟨#[45]⟩, ⟨#[33, 63]⟩, ⟨#[45, 97]⟩, ⟨#[45, 45]⟩]
theorem sp8_get {k : Nat} (h : k < 8) : List.getD [PV.atom (.string ⟨#[]⟩), .atom (.string ⟨#[32]⟩), .atom (.string ⟨#[127]⟩), .atom (.string ⟨#[97]⟩), .atom (.string ⟨#[45]⟩), .atom (.string ⟨#[33, 63]⟩), .atom (.string ⟨#[45, 97]⟩), .atom (.string ⟨#[45, 45]⟩)] k .junk = .atom (.string (ls sp8 k)) := getD_encS (l := sp8) h
def ordX : Nat → List ByteArray
  | 0 => []
  | i + 1 => ordX i ++ [oneB (33 + i)]
theorem ordX_0 : ordX 0 = [] := rfl
theorem ordX_len : ∀ i, (ordX i).length = i
  | 0 => rfl
  | i + 1 => by rw [ordX, List.length_append, ordX_len i]; rfl
def spoiltS (s : SpecD) (how by_ : Int) : SpecD :=
  if around how 7 = 0 then ⟨s.words, s.skip ++ [ls sp7 (around by_ 7).toNat], s.numbers, s.order⟩
  else if around how 7 = 1 then ⟨s.words, s.skip, s.numbers, s.order ++ [ls sp8 (around by_ 8).toNat]⟩
  else if around how 7 = 2 then ⟨s.words, s.skip ++ List.replicate (12 + around by_ 8).toNat xS, s.numbers, s.order⟩
  else if around how 7 = 3 then ⟨s.words, s.skip, s.numbers, s.order ++ ordX (6 + around by_ 36).toNat⟩
  else if around how 7 = 4 then ⟨s.words, s.skip, s.numbers, s.order.take (around by_ (s.order.length + 1)).toNat⟩
  else if around how 7 = 5 then ⟨!s.words, s.skip, s.numbers, s.order⟩
  else ⟨s.words, s.skip, s.numbers, [oneB (IntKind.u8.wrap by_), abS]⟩
theorem spo_0 {s : SpecD} {how by_ : Int} (h : around how 7 = 0) : spoiltS s how by_ = ⟨s.words, s.skip ++ [ls sp7 (around by_ 7).toNat], s.numbers, s.order⟩ := if_pos h
theorem spo_1 {s : SpecD} {how by_ : Int} (h : around how 7 = 1) : spoiltS s how by_ = ⟨s.words, s.skip, s.numbers, s.order ++ [ls sp8 (around by_ 8).toNat]⟩ := by unfold spoiltS; simp [h]
theorem spo_2 {s : SpecD} {how by_ : Int} {i : Nat} (h : around how 7 = 2) (hi : (12 + around by_ 8).toNat = i) : spoiltS s how by_ = ⟨s.words, s.skip ++ List.replicate i xS, s.numbers, s.order⟩ := by unfold spoiltS; simp [h, hi]
theorem spo_3 {s : SpecD} {how by_ : Int} {i : Nat} (h : around how 7 = 3) (hi : (6 + around by_ 36).toNat = i) : spoiltS s how by_ = ⟨s.words, s.skip, s.numbers, s.order ++ ordX i⟩ := by unfold spoiltS; simp [h, hi]
theorem spo_4 {s : SpecD} {how by_ : Int} (h : around how 7 = 4) : spoiltS s how by_ = ⟨s.words, s.skip, s.numbers, s.order.take (around by_ (s.order.length + 1)).toNat⟩ := by unfold spoiltS; simp [h]
theorem spo_5 {s : SpecD} {how by_ : Int} (h : around how 7 = 5) : spoiltS s how by_ = ⟨!s.words, s.skip, s.numbers, s.order⟩ := by unfold spoiltS; simp [h]
theorem spo_6 {s : SpecD} {how by_ : Int} (h0 : ¬ around how 7 = 0) (h1 : ¬ around how 7 = 1) (h2 : ¬ around how 7 = 2) (h3 : ¬ around how 7 = 3) (h4 : ¬ around how 7 = 4) (h5 : ¬ around how 7 = 5) : spoiltS s how by_ = ⟨s.words, s.skip, s.numbers, [oneB (IntKind.u8.wrap by_), abS]⟩ := by unfold spoiltS; simp [h0, h1, h2, h3, h4, h5]
theorem Spoilt_pure (s : SpecD) (how by_ : Int) (hs : Sane s) (hh : I64 how) (hb : I64 by_) : Pure Tryd.prog 38 [encSpec s, encI how, encI by_] (encSpec (spoiltS s how by_)) [] := by
  have hsk := hs.skip
  have hso := hs.order
  have h70 := around_lo (n := by_) (most := 7) (by decide)
  have h71 := around_hi (n := by_) (most := 7) (by decide)
  have h80 := around_lo (n := by_) (most := 8) (by decide)
  have h81 := around_hi (n := by_) (most := 8) (by decide)
  have h360 := around_lo (n := by_) (most := 36) (by decide)
  have h361 := around_hi (n := by_) (most := 36) (by decide)
  have hn0 := around_lo (n := by_) (most := (s.order.length : Int) + 1) (by omega)
  have hn1 := around_hi (n := by_) (most := (s.order.length : Int) + 1) (by omega)
  have hwl : IntKind.i64.wrap ((s.order.length : Int) + 1) = (s.order.length : Int) + 1 := wrap_id (by omega) (by omega)
  have hle : around by_ ((s.order.length : Int) + 1) ≤ s.order.length := by omega
  have hg7 := sp7_get (k := (around by_ 7).toNat) (by omega)
  have hg8 := sp8_get (k := (around by_ 8).toNat) (by omega)
  refine Pure.introR (rv := [.cell 6 35]) Tryd.func38 (by kernel_rfl) rfl rfl rfl (Nat.le_of_ble_eq_true rfl) ?_ ?_
  · simp [encB, encS, encI, encSpec, PV.pure, pureL, pure_strs]
  refine sZ [1, 2, 3, 6] (fun P S K => XvBox S.nx (S.get 0) (fun r0 e0 => XvAlloc P 35 (S.nx + e0.add.length) (fun r1 e1 => K ⟨[(1, S.get 1), (2, S.get 2), (3, r0), (6, r1)], (Eff.hp e1 (S.nx + e0.add.length) (Eff.hp e0 S.nx S.hp)), ((S.nx + e0.add.length) + e1.add.length), S.gh⟩))) fun K hK => ?_
  repeat' (first | (refine hK _ ?_; clear hK K) | ((first | refine xG_intro (fun hg => ?_) (fun hg => ?_) | refine fun (hg : (_ : Prop)) => ?_) <;> ((try simp only [BQ] at hg); try (exfalso; omega))) | refine And.intro ?_ ?_ | exact cl | refine one_take ?_ _ | refine one_drop ?_ _ | (refine st ?_; try simp only [encSpec, oneB_eq, oneB_size]) | simp only [encSpec, oneB_eq, oneB_size])
  all_goals
  refine Tri.cut (α := Unit) (fun ⟨⟩ => ⟨[(1, encI how), (2, encI by_), (6, .ptr 0 4 0 0), (7, .ptr 1 4 0 0)], [(0, some ⟨4, [.agg [.atom (.bool false), .atom (.slice none 0 0), .atom (.bool false), .atom (.slice none 0 0)]]⟩), (1, some ⟨4, [.agg [.atom (.bool s.words), .ob 2 1 0 s.skip.length, .atom (.bool s.numbers), .ob 3 1 0 s.order.length]]⟩), (2, some ⟨1, s.skip.map encS⟩), (3, some ⟨1, s.order.map encS⟩)], 4, []⟩) ?_ ?_
  ·skip
   refine rD 14 [1, 2, 6, 7] (fun P GD S K => XvFieldAddr P 35 0 (S.get 3) (fun r0 e0 => XvLoad P 4 (M S.hp S.nx) r0 (fun r1 e1 => XvBuildS P 25 0 S.nx [] (fun r2 e2 => XvFieldAddr P 35 1 (S.get 3) (fun r3 e3 => XvLoad P 25 (M (Eff.hp e2 S.nx S.hp) (S.nx + e2.add.length)) r3 (fun r4 e4 => (25 = 25 ∧ XvAppend P 25 (M (Eff.hp e2 S.nx S.hp) (S.nx + e2.add.length)) r2 r4 (fun r5 e5 => XvFieldAddr P 35 2 (S.get 3) (fun r6 e6 => XvLoad P 4 (M (Eff.hp e5 (S.nx + e2.add.length) (Eff.hp e2 S.nx S.hp)) ((S.nx + e2.add.length) + e5.add.length)) r6 (fun r7 e7 => XvBuildS P 25 0 ((S.nx + e2.add.length) + e5.add.length) [] (fun r8 e8 => XvFieldAddr P 35 3 (S.get 3) (fun r9 e9 => XvLoad P 25 (M (Eff.hp e8 ((S.nx + e2.add.length) + e5.add.length) (Eff.hp e5 (S.nx + e2.add.length) (Eff.hp e2 S.nx S.hp))) (((S.nx + e2.add.length) + e5.add.length) + e8.add.length)) r9 (fun r10 e10 => (25 = 25 ∧ XvAppend P 25 (M (Eff.hp e8 ((S.nx + e2.add.length) + e5.add.length) (Eff.hp e5 (S.nx + e2.add.length) (Eff.hp e2 S.nx S.hp))) (((S.nx + e2.add.length) + e5.add.length) + e8.add.length)) r8 r10 (fun r11 e11 => XvBuild P 35 [(0, r1), (1, r5), (2, r7), (3, r11)] (fun r12 e12 => XvAlloc P 35 ((((S.nx + e2.add.length) + e5.add.length) + e8.add.length) + e11.add.length) (fun r13 e13 => (trOk S.nx GD [⟨S.nx, 0, e0.rd, [], []⟩, ⟨S.nx, 0, e1.rd, [], []⟩, (Eff.tr e2 S.nx), ⟨(S.nx + e2.add.length), 0, e3.rd, [], []⟩, ⟨(S.nx + e2.add.length), 0, e4.rd, [], []⟩, (Eff.tr e5 (S.nx + e2.add.length)), ⟨((S.nx + e2.add.length) + e5.add.length), 0, e6.rd, [], []⟩, ⟨((S.nx + e2.add.length) + e5.add.length), 0, e7.rd, [], []⟩, (Eff.tr e8 ((S.nx + e2.add.length) + e5.add.length)), ⟨(((S.nx + e2.add.length) + e5.add.length) + e8.add.length), 0, e9.rd, [], []⟩, ⟨(((S.nx + e2.add.length) + e5.add.length) + e8.add.length), 0, e10.rd, [], []⟩, (Eff.tr e11 (((S.nx + e2.add.length) + e5.add.length) + e8.add.length)), ⟨((((S.nx + e2.add.length) + e5.add.length) + e8.add.length) + e11.add.length), 0, e12.rd, [], []⟩, (Eff.tr e13 ((((S.nx + e2.add.length) + e5.add.length) + e8.add.length) + e11.add.length))] = true ∧ XvStore P 35 (M (Eff.hp e13 ((((S.nx + e2.add.length) + e5.add.length) + e8.add.length) + e11.add.length) (Eff.hp e11 (((S.nx + e2.add.length) + e5.add.length) + e8.add.length) (Eff.hp e8 ((S.nx + e2.add.length) + e5.add.length) (Eff.hp e5 (S.nx + e2.add.length) (Eff.hp e2 S.nx S.hp))))) (((((S.nx + e2.add.length) + e5.add.length) + e8.add.length) + e11.add.length) + e13.add.length)) r13 r12 (fun r14 e14 => K ⟨[(1, S.get 1), (2, S.get 2), (6, S.get 6), (7, r13)], (Eff.hp e14 (((((S.nx + e2.add.length) + e5.add.length) + e8.add.length) + e11.add.length) + e13.add.length) (Eff.hp e13 ((((S.nx + e2.add.length) + e5.add.length) + e8.add.length) + e11.add.length) (Eff.hp e11 (((S.nx + e2.add.length) + e5.add.length) + e8.add.length) (Eff.hp e8 ((S.nx + e2.add.length) + e5.add.length) (Eff.hp e5 (S.nx + e2.add.length) (Eff.hp e2 S.nx S.hp)))))), ((((((S.nx + e2.add.length) + e5.add.length) + e8.add.length) + e11.add.length) + e13.add.length) + e14.add.length), S.gh⟩))))))))))))))))))) fun K hK => ?_
   repeat' (first | (refine hK _ ?_; clear hK K) | (refine (?_ : trOk _ _ _ = true); kernel_rfl) | ((first | refine xG_intro (fun hg => ?_) (fun hg => ?_) | refine fun (hg : (_ : Prop)) => ?_) <;> ((try simp only [BQ] at hg); try (exfalso; omega))) | refine And.intro ?_ ?_ | exact cl | refine one_take ?_ _ | refine one_drop ?_ _ | (refine st ?_; try simp only [encSpec, oneB_eq, oneB_size]) | simp only [encSpec, oneB_eq, oneB_size])
   all_goals
   refine ⟨(), [1, 6, 3, 5], ?_⟩
   exact leqW22
  ·rintro ⟨⟩
   refine Tri.seq ?_
   refine sZ [2, 6, 7, 24] (fun P S K => XvFnIV P (M S.hp S.nx) (.fn 12 []) [(S.get 1), (.atom (.int .i64 7))] (fun r1 e1 => K ⟨[(2, S.get 2), (6, S.get 6), (7, S.get 7), (24, r1)], (Eff.hp e1 S.nx S.hp), (S.nx + e1.add.length), S.gh⟩)) fun K hK => ?_
   repeat' (first | (refine hK _ ?_; clear hK K) | ((first | refine xG_intro (fun hg => ?_) (fun hg => ?_) | refine fun (hg : (_ : Prop)) => ?_) <;> ((try simp only [BQ] at hg); try (exfalso; omega))) | refine And.intro ?_ ?_ | exact cl | refine one_take ?_ _ | refine one_drop ?_ _ | refine .inl ⟨_, _, Around_pure how 7 hh (by decide), ?_⟩ | refine ⟨_, _, Around_pure how 7 hh (by decide), ?_⟩ | refine .inl ⟨_, _, Around_pure by_ 7 hb (by decide), ?_⟩ | refine ⟨_, _, Around_pure by_ 7 hb (by decide), ?_⟩ | refine .inl ⟨_, _, Around_pure by_ 8 hb (by decide), ?_⟩ | refine ⟨_, _, Around_pure by_ 8 hb (by decide), ?_⟩ | refine .inl ⟨_, _, Around_pure by_ 36 hb (by decide), ?_⟩ | refine ⟨_, _, Around_pure by_ 36 hb (by decide), ?_⟩ | refine .inl ⟨_, _, Around_pure by_ ((s.order.length : Int) + 1) hb (by omega), ?_⟩ | refine ⟨_, _, Around_pure by_ ((s.order.length : Int) + 1) hb (by omega), ?_⟩ | (refine st ?_; try simp only [encSpec, oneB_eq, oneB_size]) | simp only [encSpec, oneB_eq, oneB_size])
   all_goals
   refine Tri.block ?_
   refine sY [2, 6, 7, 24, 31] (fun P S K => XvBinOV P .eql 3 (.const (.int .i64 0)) (S.get 24) (.atom (.int .i64 0)) (fun r0 _ => K ⟨[(2, S.get 2), (6, S.get 6), (7, S.get 7), (24, S.get 24), (31, r0)], S.hp, S.nx, S.gh⟩)) ?_
   all_goals
   refine Tri.cond rfl (fun h31 => ?_) (fun h31 => ?_)
   ·try (cases h31; done)
    all_goals (try simp only [CQ] at h31)
    all_goals
    refine rD 10 [6, 7] (fun P GD S K => XvFieldAddr P 35 1 (S.get 7) (fun r0 e0 => XvLoad P 25 (M S.hp S.nx) r0 (fun r1 e1 => XvBuildS P 25 7 S.nx [(0, (.atom (.string { data := #[] }))), (1, (.atom (.string { data := #[84, 104, 101] }))), (2, (.atom (.string { data := #[111, 102] }))), (3, (.atom (.string { data := #[97, 98, 99, 100, 101, 102, 103, 104, 105, 106, 107, 108, 109, 110, 111, 112, 113, 114, 115, 116, 117, 118, 119, 120, 121] }))), (4, (.atom (.string { data := #[97, 98, 99, 100, 101, 102, 103, 104, 105, 106, 107, 108, 109, 110, 111, 112, 113, 114, 115, 116, 117, 118, 119, 120] }))), (5, (.atom (.string { data := #[97, 32, 98] }))), (6, (.atom (.string { data := #[120, 49] })))] (fun r2 e2 => XvFnV P (M (Eff.hp e2 S.nx S.hp) (S.nx + e2.add.length)) (.fn 12 []) [(S.get 2), (.atom (.int .i64 7))] (fun r4 e4 => XvIndexAddr P 25 r2 r4 (fun r5 e5 => XvLoad P 9 (M (Eff.hp e4 (S.nx + e2.add.length) (Eff.hp e2 S.nx S.hp)) ((S.nx + e2.add.length) + e4.add.length)) r5 (fun r6 e6 => XvBuildS P 25 1 ((S.nx + e2.add.length) + e4.add.length) [(0, r6)] (fun r7 e7 => (25 = 25 ∧ XvAppend P 25 (M (Eff.hp e7 ((S.nx + e2.add.length) + e4.add.length) (Eff.hp e4 (S.nx + e2.add.length) (Eff.hp e2 S.nx S.hp))) (((S.nx + e2.add.length) + e4.add.length) + e7.add.length)) r1 r7 (fun r8 e8 => XvFieldAddr P 35 1 (S.get 7) (fun r9 e9 => (trOk S.nx GD [⟨S.nx, 0, e0.rd, [], []⟩, ⟨S.nx, 0, e1.rd, [], []⟩, (Eff.tr e2 S.nx), ⟨(S.nx + e2.add.length), 0, [], [], []⟩, (Eff.tr e4 (S.nx + e2.add.length)), ⟨((S.nx + e2.add.length) + e4.add.length), 0, e5.rd, [], []⟩, ⟨((S.nx + e2.add.length) + e4.add.length), 0, e6.rd, [], []⟩, (Eff.tr e7 ((S.nx + e2.add.length) + e4.add.length)), (Eff.tr e8 (((S.nx + e2.add.length) + e4.add.length) + e7.add.length)), ⟨((((S.nx + e2.add.length) + e4.add.length) + e7.add.length) + e8.add.length), 0, e9.rd, [], []⟩] = true ∧ XvStore P 25 (M (Eff.hp e8 (((S.nx + e2.add.length) + e4.add.length) + e7.add.length) (Eff.hp e7 ((S.nx + e2.add.length) + e4.add.length) (Eff.hp e4 (S.nx + e2.add.length) (Eff.hp e2 S.nx S.hp)))) ((((S.nx + e2.add.length) + e4.add.length) + e7.add.length) + e8.add.length)) r9 r8 (fun r10 e10 => K ⟨[(6, S.get 6), (7, S.get 7)], (Eff.hp e10 ((((S.nx + e2.add.length) + e4.add.length) + e7.add.length) + e8.add.length) (Eff.hp e8 (((S.nx + e2.add.length) + e4.add.length) + e7.add.length) (Eff.hp e7 ((S.nx + e2.add.length) + e4.add.length) (Eff.hp e4 (S.nx + e2.add.length) (Eff.hp e2 S.nx S.hp))))), (((((S.nx + e2.add.length) + e4.add.length) + e7.add.length) + e8.add.length) + e10.add.length), S.gh⟩))))))))))))) fun K hK => ?_
    repeat' (first | (refine hK _ ?_; clear hK K) | (refine (?_ : trOk _ _ _ = true); kernel_rfl) | ((first | refine xG_intro (fun hg => ?_) (fun hg => ?_) | refine fun (hg : (_ : Prop)) => ?_) <;> ((try simp only [BQ] at hg); try (exfalso; omega))) | refine And.intro ?_ ?_ | exact cl | refine one_take ?_ _ | refine one_drop ?_ _ | refine .inl ⟨_, _, Around_pure how 7 hh (by decide), ?_⟩ | refine ⟨_, _, Around_pure how 7 hh (by decide), ?_⟩ | refine .inl ⟨_, _, Around_pure by_ 7 hb (by decide), ?_⟩ | refine ⟨_, _, Around_pure by_ 7 hb (by decide), ?_⟩ | refine .inl ⟨_, _, Around_pure by_ 8 hb (by decide), ?_⟩ | refine ⟨_, _, Around_pure by_ 8 hb (by decide), ?_⟩ | refine .inl ⟨_, _, Around_pure by_ 36 hb (by decide), ?_⟩ | refine ⟨_, _, Around_pure by_ 36 hb (by decide), ?_⟩ | refine .inl ⟨_, _, Around_pure by_ ((s.order.length : Int) + 1) hb (by omega), ?_⟩ | refine ⟨_, _, Around_pure by_ ((s.order.length : Int) + 1) hb (by omega), ?_⟩ | (refine st ?_; try simp only [encSpec, oneB_eq, oneB_size, hg7]) | simp only [encSpec, oneB_eq, oneB_size, hg7])
    all_goals
    refine sZ [6] (fun P S K => XvLoad P 35 (M S.hp S.nx) (S.get 7) (fun r0 _ => XvStore P 35 (M S.hp S.nx) (S.get 6) r0 (fun r1 e1 => K ⟨[(6, S.get 6)], (Eff.hp e1 S.nx S.hp), (S.nx + e1.add.length), S.gh⟩))) fun K hK => ?_
    repeat' (first | (refine hK _ ?_; clear hK K) | ((first | refine xG_intro (fun hg => ?_) (fun hg => ?_) | refine fun (hg : (_ : Prop)) => ?_) <;> ((try simp only [BQ] at hg); try (exfalso; omega))) | refine And.intro ?_ ?_ | exact cl | refine one_take ?_ _ | refine one_drop ?_ _ | (refine st ?_; try simp only [encSpec, oneB_eq, oneB_size]) | simp only [encSpec, oneB_eq, oneB_size])
    all_goals
    refine Tri.ret ?_
    show ResR _ _ _ _ _
    first
      | rw [spo_0 h31]
      | rw [spo_1 h43]
      | rw [spo_4 h88]
      | rw [spo_5 h100]
      | rw [spo_6 h31 h43 h55 h69 h88 h100]
      | (have hii : (12 + around by_ 8).toNat = i := (by omega); rw [spo_2 h55 hii])
      | (have hii : (6 + around by_ 36).toNat = i := (by omega); rw [spo_3 h69 hii])
    refine ResR.cell1 (PV.agg [_, _, _, _]) rfl ?_ (pure_spec _)
    first
      | (simp [sealed, St.obj, lk, encSpec, strs, encS, xS, abS, List.take_of_length_le, List.map_take, ordX_len]; done)
      | (simp [-List.map_map, sealed, St.obj, lk, encSpec, strs, map_sealed_encS, List.take_of_length_le, ordX_len, hle]; done)
      | (simp [-List.map_map, sealed, St.obj, lk, encSpec, strs, map_sealed_encS, List.take_of_length_le, ordX_len, hle, List.map_take])
   ·try (cases h31; done)
    all_goals (try simp only [CQ] at h31)
    all_goals
    refine sY [2, 6, 7, 24, 43] (fun P S K => XvBinOV P .eql 3 (.const (.int .i64 1)) (S.get 24) (.atom (.int .i64 1)) (fun r0 _ => K ⟨[(2, S.get 2), (6, S.get 6), (7, S.get 7), (24, S.get 24), (43, r0)], S.hp, S.nx, S.gh⟩)) ?_
    all_goals
    refine Tri.cond rfl (fun h43 => ?_) (fun h43 => ?_)
    ·try (cases h43; done)
     all_goals (try simp only [CQ] at h43)
     all_goals
     refine rD 10 [6, 7] (fun P GD S K => XvFieldAddr P 35 3 (S.get 7) (fun r0 e0 => XvLoad P 25 (M S.hp S.nx) r0 (fun r1 e1 => XvBuildS P 25 8 S.nx [(0, (.atom (.string { data := #[] }))), (1, (.atom (.string { data := #[32] }))), (2, (.atom (.string { data := #[127] }))), (3, (.atom (.string { data := #[97] }))), (4, (.atom (.string { data := #[45] }))), (5, (.atom (.string { data := #[33, 63] }))), (6, (.atom (.string { data := #[45, 97] }))), (7, (.atom (.string { data := #[45, 45] })))] (fun r2 e2 => XvFnV P (M (Eff.hp e2 S.nx S.hp) (S.nx + e2.add.length)) (.fn 12 []) [(S.get 2), (.atom (.int .i64 8))] (fun r4 e4 => XvIndexAddr P 25 r2 r4 (fun r5 e5 => XvLoad P 9 (M (Eff.hp e4 (S.nx + e2.add.length) (Eff.hp e2 S.nx S.hp)) ((S.nx + e2.add.length) + e4.add.length)) r5 (fun r6 e6 => XvBuildS P 25 1 ((S.nx + e2.add.length) + e4.add.length) [(0, r6)] (fun r7 e7 => (25 = 25 ∧ XvAppend P 25 (M (Eff.hp e7 ((S.nx + e2.add.length) + e4.add.length) (Eff.hp e4 (S.nx + e2.add.length) (Eff.hp e2 S.nx S.hp))) (((S.nx + e2.add.length) + e4.add.length) + e7.add.length)) r1 r7 (fun r8 e8 => XvFieldAddr P 35 3 (S.get 7) (fun r9 e9 => (trOk S.nx GD [⟨S.nx, 0, e0.rd, [], []⟩, ⟨S.nx, 0, e1.rd, [], []⟩, (Eff.tr e2 S.nx), ⟨(S.nx + e2.add.length), 0, [], [], []⟩, (Eff.tr e4 (S.nx + e2.add.length)), ⟨((S.nx + e2.add.length) + e4.add.length), 0, e5.rd, [], []⟩, ⟨((S.nx + e2.add.length) + e4.add.length), 0, e6.rd, [], []⟩, (Eff.tr e7 ((S.nx + e2.add.length) + e4.add.length)), (Eff.tr e8 (((S.nx + e2.add.length) + e4.add.length) + e7.add.length)), ⟨((((S.nx + e2.add.length) + e4.add.length) + e7.add.length) + e8.add.length), 0, e9.rd, [], []⟩] = true ∧ XvStore P 25 (M (Eff.hp e8 (((S.nx + e2.add.length) + e4.add.length) + e7.add.length) (Eff.hp e7 ((S.nx + e2.add.length) + e4.add.length) (Eff.hp e4 (S.nx + e2.add.length) (Eff.hp e2 S.nx S.hp)))) ((((S.nx + e2.add.length) + e4.add.length) + e7.add.length) + e8.add.length)) r9 r8 (fun r10 e10 => K ⟨[(6, S.get 6), (7, S.get 7)], (Eff.hp e10 ((((S.nx + e2.add.length) + e4.add.length) + e7.add.length) + e8.add.length) (Eff.hp e8 (((S.nx + e2.add.length) + e4.add.length) + e7.add.length) (Eff.hp e7 ((S.nx + e2.add.length) + e4.add.length) (Eff.hp e4 (S.nx + e2.add.length) (Eff.hp e2 S.nx S.hp))))), (((((S.nx + e2.add.length) + e4.add.length) + e7.add.length) + e8.add.length) + e10.add.length), S.gh⟩))))))))))))) fun K hK => ?_
     repeat' (first | (refine hK _ ?_; clear hK K) | (refine (?_ : trOk _ _ _ = true); kernel_rfl) | ((first | refine xG_intro (fun hg => ?_) (fun hg => ?_) | refine fun (hg : (_ : Prop)) => ?_) <;> ((try simp only [BQ] at hg); try (exfalso; omega))) | refine And.intro ?_ ?_ | exact cl | refine one_take ?_ _ | refine one_drop ?_ _ | refine .inl ⟨_, _, Around_pure how 7 hh (by decide), ?_⟩ | refine ⟨_, _, Around_pure how 7 hh (by decide), ?_⟩ | refine .inl ⟨_, _, Around_pure by_ 7 hb (by decide), ?_⟩ | refine ⟨_, _, Around_pure by_ 7 hb (by decide), ?_⟩ | refine .inl ⟨_, _, Around_pure by_ 8 hb (by decide), ?_⟩ | refine ⟨_, _, Around_pure by_ 8 hb (by decide), ?_⟩ | refine .inl ⟨_, _, Around_pure by_ 36 hb (by decide), ?_⟩ | refine ⟨_, _, Around_pure by_ 36 hb (by decide), ?_⟩ | refine .inl ⟨_, _, Around_pure by_ ((s.order.length : Int) + 1) hb (by omega), ?_⟩ | refine ⟨_, _, Around_pure by_ ((s.order.length : Int) + 1) hb (by omega), ?_⟩ | (refine st ?_; try simp only [encSpec, oneB_eq, oneB_size, hg8]) | simp only [encSpec, oneB_eq, oneB_size, hg8])
     all_goals
     refine sZ [6] (fun P S K => XvLoad P 35 (M S.hp S.nx) (S.get 7) (fun r0 _ => XvStore P 35 (M S.hp S.nx) (S.get 6) r0 (fun r1 e1 => K ⟨[(6, S.get 6)], (Eff.hp e1 S.nx S.hp), (S.nx + e1.add.length), S.gh⟩))) fun K hK => ?_
     repeat' (first | (refine hK _ ?_; clear hK K) | ((first | refine xG_intro (fun hg => ?_) (fun hg => ?_) | refine fun (hg : (_ : Prop)) => ?_) <;> ((try simp only [BQ] at hg); try (exfalso; omega))) | refine And.intro ?_ ?_ | exact cl | refine one_take ?_ _ | refine one_drop ?_ _ | (refine st ?_; try simp only [encSpec, oneB_eq, oneB_size]) | simp only [encSpec, oneB_eq, oneB_size])
     all_goals
     refine Tri.ret ?_
     show ResR _ _ _ _ _
     first
       | rw [spo_0 h31]
       | rw [spo_1 h43]
       | rw [spo_4 h88]
       | rw [spo_5 h100]
       | rw [spo_6 h31 h43 h55 h69 h88 h100]
       | (have hii : (12 + around by_ 8).toNat = i := (by omega); rw [spo_2 h55 hii])
       | (have hii : (6 + around by_ 36).toNat = i := (by omega); rw [spo_3 h69 hii])
     refine ResR.cell1 (PV.agg [_, _, _, _]) rfl ?_ (pure_spec _)
     first
       | (simp [sealed, St.obj, lk, encSpec, strs, encS, xS, abS, List.take_of_length_le, List.map_take, ordX_len]; done)
       | (simp [-List.map_map, sealed, St.obj, lk, encSpec, strs, map_sealed_encS, List.take_of_length_le, ordX_len, hle]; done)
       | (simp [-List.map_map, sealed, St.obj, lk, encSpec, strs, map_sealed_encS, List.take_of_length_le, ordX_len, hle, List.map_take])
    ·try (cases h43; done)
     all_goals (try simp only [CQ] at h43)
     all_goals
     refine sY [2, 6, 7, 24, 55] (fun P S K => XvBinOV P .eql 3 (.const (.int .i64 2)) (S.get 24) (.atom (.int .i64 2)) (fun r0 _ => K ⟨[(2, S.get 2), (6, S.get 6), (7, S.get 7), (24, S.get 24), (55, r0)], S.hp, S.nx, S.gh⟩)) ?_
     all_goals
     refine Tri.cond rfl (fun h55 => ?_) (fun h55 => ?_)
     ·try (cases h55; done)
      all_goals (try simp only [CQ] at h55)
      all_goals
      refine sY [2, 6, 7, 8] (fun P S K => K ⟨[(2, S.get 2), (6, S.get 6), (7, S.get 7), (8, (.atom (.int .i64 0)))], S.hp, S.nx, S.gh⟩) ?_
      all_goals
      refine Tri.block ?_
      refine Tri.loop (α := (i : Nat) ×' ((i : Int) ≤ 12 + around by_ 8)) (fun z => (fun (i : Nat) => (⟨[(2, encI by_), (6, .ptr 0 4 0 0), (7, .ptr 1 4 0 0), (8, encI i)], [(0, some ⟨4, [.agg [.atom (.bool false), .atom (.slice none 0 0), .atom (.bool false), .atom (.slice none 0 0)]]⟩), (1, some ⟨4, [.agg [.atom (.bool s.words), .ob 2 1 0 (s.skip.length + i), .atom (.bool s.numbers), .ob 3 1 0 s.order.length]]⟩), (2, some ⟨1, (s.skip ++ List.replicate i xS).map encS⟩), (3, some ⟨1, s.order.map encS⟩)], 4, []⟩ : St)) z.1) (fun z => (fun (i : Nat) => 20 - i) z.1) ⟨0, by omega⟩ [0, 1, 2, 3] ?_ ?_
      ·exact leqW22
      ·rintro ⟨i, hi⟩
       refine Tri.seq ?_
       refine sZ [2, 6, 7, 8, 61] (fun P S K => XvFnIV P (M S.hp S.nx) (.fn 12 []) [(S.get 2), (.atom (.int .i64 8))] (fun r2 e2 => XvBinOV P .add 3 (.tmp 59) (.atom (.int .i64 12)) r2 (fun r3 _ => XvBinOV P .lss 3 (.tmp 60) (S.get 8) r3 (fun r4 _ => K ⟨[(2, S.get 2), (6, S.get 6), (7, S.get 7), (8, S.get 8), (61, r4)], (Eff.hp e2 S.nx S.hp), (S.nx + e2.add.length), S.gh⟩)))) fun K hK => ?_
       repeat' (first | (refine hK _ ?_; clear hK K) | ((first | refine xG_intro (fun hg => ?_) (fun hg => ?_) | refine fun (hg : (_ : Prop)) => ?_) <;> ((try simp only [BQ] at hg); try (exfalso; omega))) | refine And.intro ?_ ?_ | exact cl | refine one_take ?_ _ | refine one_drop ?_ _ | refine .inl ⟨_, _, Around_pure how 7 hh (by decide), ?_⟩ | refine ⟨_, _, Around_pure how 7 hh (by decide), ?_⟩ | refine .inl ⟨_, _, Around_pure by_ 7 hb (by decide), ?_⟩ | refine ⟨_, _, Around_pure by_ 7 hb (by decide), ?_⟩ | refine .inl ⟨_, _, Around_pure by_ 8 hb (by decide), ?_⟩ | refine ⟨_, _, Around_pure by_ 8 hb (by decide), ?_⟩ | refine .inl ⟨_, _, Around_pure by_ 36 hb (by decide), ?_⟩ | refine ⟨_, _, Around_pure by_ 36 hb (by decide), ?_⟩ | refine .inl ⟨_, _, Around_pure by_ ((s.order.length : Int) + 1) hb (by omega), ?_⟩ | refine ⟨_, _, Around_pure by_ ((s.order.length : Int) + 1) hb (by omega), ?_⟩ | (refine st ?_; try simp only [encSpec, oneB_eq, oneB_size]) | simp only [encSpec, oneB_eq, oneB_size])
       all_goals try simp (disch := omega) only [wrap_id, wrap8_id]
       all_goals
       refine Tri.cond rfl (fun h61 => ?_) (fun h61 => ?_)
       ·try (cases h61; done)
        all_goals (try simp only [CQ] at h61)
        all_goals
        refine Tri.skip ?_
        refine Tri.seq ?_
        refine Tri.block ?_
        refine rZ [2, 6, 7, 8] (fun P S K => XvFieldAddr P 35 1 (S.get 7) (fun r0 _ => XvLoad P 25 (M S.hp S.nx) r0 (fun r1 _ => XvBuildS P 25 1 S.nx [(0, (.atom (.string { data := #[120] })))] (fun r2 e2 => (25 = 25 ∧ XvAppend P 25 (M (Eff.hp e2 S.nx S.hp) (S.nx + e2.add.length)) r1 r2 (fun r3 e3 => XvFieldAddr P 35 1 (S.get 7) (fun r4 _ => XvStore P 25 (M (Eff.hp e3 (S.nx + e2.add.length) (Eff.hp e2 S.nx S.hp)) ((S.nx + e2.add.length) + e3.add.length)) r4 r3 (fun r5 e5 => K ⟨[(2, S.get 2), (6, S.get 6), (7, S.get 7), (8, S.get 8)], (Eff.hp e5 ((S.nx + e2.add.length) + e3.add.length) (Eff.hp e3 (S.nx + e2.add.length) (Eff.hp e2 S.nx S.hp))), (((S.nx + e2.add.length) + e3.add.length) + e5.add.length), S.gh⟩)))))))) fun K hK => ?_
        repeat' (first | (refine hK _ ?_; clear hK K) | ((first | refine xG_intro (fun hg => ?_) (fun hg => ?_) | refine fun (hg : (_ : Prop)) => ?_) <;> ((try simp only [BQ] at hg); try (exfalso; omega))) | refine And.intro ?_ ?_ | exact cl | refine one_take ?_ _ | refine one_drop ?_ _ | (refine st ?_; try simp only [encSpec, oneB_eq, oneB_size]) | simp only [encSpec, oneB_eq, oneB_size])
        all_goals
        refine rY [2, 6, 7, 8] (fun P S K => XvBinOV P .add 3 (.const (.int .i64 1)) (S.get 8) (.atom (.int .i64 1)) (fun r1 _ => K ⟨[(2, S.get 2), (6, S.get 6), (7, S.get 7), (8, r1)], S.hp, S.nx, S.gh⟩)) ?_
        all_goals try simp (disch := omega) only [wrap_id, wrap8_id]
        all_goals
        refine ⟨⟨i + 1, by omega⟩, [0, 1, 5, 3], by dsimp only; omega, ?_⟩
        dsimp only
        rw [show s.skip.length + (i + 1) = s.skip.length + i + 1 from rfl, List.replicate_succ', ← List.append_assoc]
        exact leqW22
       ·try (cases h61; done)
        all_goals (try simp only [CQ] at h61)
        all_goals
        refine Tri.exit ?_
        refine sZ [6] (fun P S K => XvLoad P 35 (M S.hp S.nx) (S.get 7) (fun r0 _ => XvStore P 35 (M S.hp S.nx) (S.get 6) r0 (fun r1 e1 => K ⟨[(6, S.get 6)], (Eff.hp e1 S.nx S.hp), (S.nx + e1.add.length), S.gh⟩))) fun K hK => ?_
        repeat' (first | (refine hK _ ?_; clear hK K) | ((first | refine xG_intro (fun hg => ?_) (fun hg => ?_) | refine fun (hg : (_ : Prop)) => ?_) <;> ((try simp only [BQ] at hg); try (exfalso; omega))) | refine And.intro ?_ ?_ | exact cl | refine one_take ?_ _ | refine one_drop ?_ _ | (refine st ?_; try simp only [encSpec, oneB_eq, oneB_size]) | simp only [encSpec, oneB_eq, oneB_size])
        all_goals
        refine Tri.ret ?_
        show ResR _ _ _ _ _
        first
          | rw [spo_0 h31]
          | rw [spo_1 h43]
          | rw [spo_4 h88]
          | rw [spo_5 h100]
          | rw [spo_6 h31 h43 h55 h69 h88 h100]
          | (have hii : (12 + around by_ 8).toNat = i := (by omega); rw [spo_2 h55 hii])
          | (have hii : (6 + around by_ 36).toNat = i := (by omega); rw [spo_3 h69 hii])
        refine ResR.cell1 (PV.agg [_, _, _, _]) rfl ?_ (pure_spec _)
        first
          | (simp [sealed, St.obj, lk, encSpec, strs, encS, xS, abS, List.take_of_length_le, List.map_take, ordX_len]; done)
          | (simp [-List.map_map, sealed, St.obj, lk, encSpec, strs, map_sealed_encS, List.take_of_length_le, ordX_len, hle]; done)
          | (simp [-List.map_map, sealed, St.obj, lk, encSpec, strs, map_sealed_encS, List.take_of_length_le, ordX_len, hle, List.map_take])
     ·try (cases h55; done)
      all_goals (try simp only [CQ] at h55)
      all_goals
      refine sY [2, 6, 7, 24, 69] (fun P S K => XvBinOV P .eql 3 (.const (.int .i64 3)) (S.get 24) (.atom (.int .i64 3)) (fun r0 _ => K ⟨[(2, S.get 2), (6, S.get 6), (7, S.get 7), (24, S.get 24), (69, r0)], S.hp, S.nx, S.gh⟩)) ?_
      all_goals
      refine Tri.cond rfl (fun h69 => ?_) (fun h69 => ?_)
      ·try (cases h69; done)
       all_goals (try simp only [CQ] at h69)
       all_goals
       refine sY [2, 6, 7, 9] (fun P S K => K ⟨[(2, S.get 2), (6, S.get 6), (7, S.get 7), (9, (.atom (.int .i64 0)))], S.hp, S.nx, S.gh⟩) ?_
       all_goals
       refine Tri.block ?_
       refine Tri.loop (α := (i : Nat) ×' ((i : Int) ≤ 6 + around by_ 36)) (fun z => (fun (i : Nat) => (⟨[(2, encI by_), (6, .ptr 0 4 0 0), (7, .ptr 1 4 0 0), (9, encI i)], [(0, some ⟨4, [.agg [.atom (.bool false), .atom (.slice none 0 0), .atom (.bool false), .atom (.slice none 0 0)]]⟩), (1, some ⟨4, [.agg [.atom (.bool s.words), .ob 2 1 0 s.skip.length, .atom (.bool s.numbers), .ob 3 1 0 (s.order.length + i)]]⟩), (2, some ⟨1, s.skip.map encS⟩), (3, some ⟨1, (s.order ++ ordX i).map encS⟩)], 4, []⟩ : St)) z.1) (fun z => (fun (i : Nat) => 42 - i) z.1) ⟨0, by omega⟩ [0, 1, 2, 3] ?_ ?_
       ·exact leqW22
       ·rintro ⟨i, hi⟩
        have hox := ordX_len i
        refine Tri.seq ?_
        refine sZ [2, 6, 7, 9, 75] (fun P S K => XvFnIV P (M S.hp S.nx) (.fn 12 []) [(S.get 2), (.atom (.int .i64 36))] (fun r2 e2 => XvBinOV P .add 3 (.tmp 73) (.atom (.int .i64 6)) r2 (fun r3 _ => XvBinOV P .lss 3 (.tmp 74) (S.get 9) r3 (fun r4 _ => K ⟨[(2, S.get 2), (6, S.get 6), (7, S.get 7), (9, S.get 9), (75, r4)], (Eff.hp e2 S.nx S.hp), (S.nx + e2.add.length), S.gh⟩)))) fun K hK => ?_
        repeat' (first | (refine hK _ ?_; clear hK K) | ((first | refine xG_intro (fun hg => ?_) (fun hg => ?_) | refine fun (hg : (_ : Prop)) => ?_) <;> ((try simp only [BQ] at hg); try (exfalso; omega))) | refine And.intro ?_ ?_ | exact cl | refine one_take ?_ _ | refine one_drop ?_ _ | refine .inl ⟨_, _, Around_pure how 7 hh (by decide), ?_⟩ | refine ⟨_, _, Around_pure how 7 hh (by decide), ?_⟩ | refine .inl ⟨_, _, Around_pure by_ 7 hb (by decide), ?_⟩ | refine ⟨_, _, Around_pure by_ 7 hb (by decide), ?_⟩ | refine .inl ⟨_, _, Around_pure by_ 8 hb (by decide), ?_⟩ | refine ⟨_, _, Around_pure by_ 8 hb (by decide), ?_⟩ | refine .inl ⟨_, _, Around_pure by_ 36 hb (by decide), ?_⟩ | refine ⟨_, _, Around_pure by_ 36 hb (by decide), ?_⟩ | refine .inl ⟨_, _, Around_pure by_ ((s.order.length : Int) + 1) hb (by omega), ?_⟩ | refine ⟨_, _, Around_pure by_ ((s.order.length : Int) + 1) hb (by omega), ?_⟩ | (refine st ?_; try simp only [encSpec, oneB_eq, oneB_size]) | simp only [encSpec, oneB_eq, oneB_size])
        all_goals try simp (disch := omega) only [wrap_id, wrap8_id]
        all_goals
        refine Tri.cond rfl (fun h75 => ?_) (fun h75 => ?_)
        ·try (cases h75; done)
         all_goals (try simp only [CQ] at h75)
         all_goals
         refine Tri.skip ?_
         refine Tri.seq ?_
         refine Tri.block ?_
         refine rZ [2, 6, 7, 9] (fun P S K => XvFieldAddr P 35 3 (S.get 7) (fun r0 _ => XvLoad P 25 (M S.hp S.nx) r0 (fun r1 _ => XvBinOV P .add 3 (.tmp 80) (.atom (.int .i64 33)) (S.get 9) (fun r3 _ => XvConvert P 3 5 (M S.hp S.nx) r3 (fun r4 e4 => XvBuildS P 28 1 (S.nx + e4.add.length) [(0, r4)] (fun r5 e5 => XvConvert P 28 9 (M (Eff.hp e5 (S.nx + e4.add.length) (Eff.hp e4 S.nx S.hp)) ((S.nx + e4.add.length) + e5.add.length)) r5 (fun r6 e6 => XvBuildS P 25 1 (((S.nx + e4.add.length) + e5.add.length) + e6.add.length) [(0, r6)] (fun r7 e7 => (25 = 25 ∧ XvAppend P 25 (M (Eff.hp e7 (((S.nx + e4.add.length) + e5.add.length) + e6.add.length) (Eff.hp e6 ((S.nx + e4.add.length) + e5.add.length) (Eff.hp e5 (S.nx + e4.add.length) (Eff.hp e4 S.nx S.hp)))) ((((S.nx + e4.add.length) + e5.add.length) + e6.add.length) + e7.add.length)) r1 r7 (fun r8 e8 => XvFieldAddr P 35 3 (S.get 7) (fun r9 _ => XvStore P 25 (M (Eff.hp e8 ((((S.nx + e4.add.length) + e5.add.length) + e6.add.length) + e7.add.length) (Eff.hp e7 (((S.nx + e4.add.length) + e5.add.length) + e6.add.length) (Eff.hp e6 ((S.nx + e4.add.length) + e5.add.length) (Eff.hp e5 (S.nx + e4.add.length) (Eff.hp e4 S.nx S.hp))))) (((((S.nx + e4.add.length) + e5.add.length) + e6.add.length) + e7.add.length) + e8.add.length)) r9 r8 (fun r10 e10 => K ⟨[(2, S.get 2), (6, S.get 6), (7, S.get 7), (9, S.get 9)], (Eff.hp e10 (((((S.nx + e4.add.length) + e5.add.length) + e6.add.length) + e7.add.length) + e8.add.length) (Eff.hp e8 ((((S.nx + e4.add.length) + e5.add.length) + e6.add.length) + e7.add.length) (Eff.hp e7 (((S.nx + e4.add.length) + e5.add.length) + e6.add.length) (Eff.hp e6 ((S.nx + e4.add.length) + e5.add.length) (Eff.hp e5 (S.nx + e4.add.length) (Eff.hp e4 S.nx S.hp)))))), ((((((S.nx + e4.add.length) + e5.add.length) + e6.add.length) + e7.add.length) + e8.add.length) + e10.add.length), S.gh⟩)))))))))))) fun K hK => ?_
         repeat' (first | (refine hK _ ?_; clear hK K) | ((first | refine xG_intro (fun hg => ?_) (fun hg => ?_) | refine fun (hg : (_ : Prop)) => ?_) <;> ((try simp only [BQ] at hg); try (exfalso; omega))) | refine And.intro ?_ ?_ | exact cl | refine one_take ?_ _ | refine one_drop ?_ _ | (refine st ?_; try simp only [encSpec, oneB_eq, oneB_size, ordX_len]) | simp only [encSpec, oneB_eq, oneB_size, ordX_len])
         all_goals try simp (disch := omega) only [wrap_id, wrap8_id]
         all_goals
         refine rY [2, 6, 7, 9] (fun P S K => XvBinOV P .add 3 (.const (.int .i64 1)) (S.get 9) (.atom (.int .i64 1)) (fun r1 _ => K ⟨[(2, S.get 2), (6, S.get 6), (7, S.get 7), (9, r1)], S.hp, S.nx, S.gh⟩)) ?_
         all_goals try simp (disch := omega) only [wrap_id, wrap8_id]
         all_goals
         refine ⟨⟨i + 1, by omega⟩, [0, 1, 2, 6], by dsimp only; omega, ?_⟩
         dsimp only
         rw [show s.order.length + (i + 1) = s.order.length + i + 1 from rfl, ordX, ← List.append_assoc]
         exact leqW22
        ·try (cases h75; done)
         all_goals (try simp only [CQ] at h75)
         all_goals
         refine Tri.exit ?_
         refine sZ [6] (fun P S K => XvLoad P 35 (M S.hp S.nx) (S.get 7) (fun r0 _ => XvStore P 35 (M S.hp S.nx) (S.get 6) r0 (fun r1 e1 => K ⟨[(6, S.get 6)], (Eff.hp e1 S.nx S.hp), (S.nx + e1.add.length), S.gh⟩))) fun K hK => ?_
         repeat' (first | (refine hK _ ?_; clear hK K) | ((first | refine xG_intro (fun hg => ?_) (fun hg => ?_) | refine fun (hg : (_ : Prop)) => ?_) <;> ((try simp only [BQ] at hg); try (exfalso; omega))) | refine And.intro ?_ ?_ | exact cl | refine one_take ?_ _ | refine one_drop ?_ _ | (refine st ?_; try simp only [encSpec, oneB_eq, oneB_size]) | simp only [encSpec, oneB_eq, oneB_size])
         all_goals
         refine Tri.ret ?_
         show ResR _ _ _ _ _
         first
           | rw [spo_0 h31]
           | rw [spo_1 h43]
           | rw [spo_4 h88]
           | rw [spo_5 h100]
           | rw [spo_6 h31 h43 h55 h69 h88 h100]
           | (have hii : (12 + around by_ 8).toNat = i := (by omega); rw [spo_2 h55 hii])
           | (have hii : (6 + around by_ 36).toNat = i := (by omega); rw [spo_3 h69 hii])
         refine ResR.cell1 (PV.agg [_, _, _, _]) rfl ?_ (pure_spec _)
         first
           | (simp [sealed, St.obj, lk, encSpec, strs, encS, xS, abS, List.take_of_length_le, List.map_take, ordX_len]; done)
           | (simp [-List.map_map, sealed, St.obj, lk, encSpec, strs, map_sealed_encS, List.take_of_length_le, ordX_len, hle]; done)
           | (simp [-List.map_map, sealed, St.obj, lk, encSpec, strs, map_sealed_encS, List.take_of_length_le, ordX_len, hle, List.map_take])
      ·try (cases h69; done)
       all_goals (try simp only [CQ] at h69)
       all_goals
       refine sY [2, 6, 7, 24, 88] (fun P S K => XvBinOV P .eql 3 (.const (.int .i64 4)) (S.get 24) (.atom (.int .i64 4)) (fun r0 _ => K ⟨[(2, S.get 2), (6, S.get 6), (7, S.get 7), (24, S.get 24), (88, r0)], S.hp, S.nx, S.gh⟩)) ?_
       all_goals
       refine Tri.cond rfl (fun h88 => ?_) (fun h88 => ?_)
       ·try (cases h88; done)
        all_goals (try simp only [CQ] at h88)
        all_goals
        refine rD 10 [6, 7] (fun P GD S K => XvFieldAddr P 35 3 (S.get 7) (fun r0 e0 => XvLoad P 25 (M S.hp S.nx) r0 (fun r1 e1 => XvFieldAddr P 35 3 (S.get 7) (fun r3 e3 => XvLoad P 25 (M S.hp S.nx) r3 (fun r4 e4 => XvLen P 25 r4 (fun r5 e5 => XvBinOV P .add 3 (.const (.int .i64 1)) r5 (.atom (.int .i64 1)) (fun r6 e6 => XvFnV P (M S.hp S.nx) (.fn 12 []) [(S.get 2), r6] (fun r7 e7 => XvSliceV P 25 r1 none (some r7) (fun r8 e8 => XvFieldAddr P 35 3 (S.get 7) (fun r9 e9 => (trOk S.nx GD [⟨S.nx, 0, e0.rd, [], []⟩, ⟨S.nx, 0, e1.rd, [], []⟩, ⟨S.nx, 0, [], [], []⟩, ⟨S.nx, 0, e3.rd, [], []⟩, ⟨S.nx, 0, e4.rd, [], []⟩, ⟨S.nx, 0, e5.rd, [], []⟩, ⟨S.nx, 0, e6.rd, [], []⟩, (Eff.tr e7 S.nx), ⟨(S.nx + e7.add.length), 0, e8.rd, [], []⟩, ⟨(S.nx + e7.add.length), 0, e9.rd, [], []⟩] = true ∧ XvStore P 25 (M (Eff.hp e7 S.nx S.hp) (S.nx + e7.add.length)) r9 r8 (fun r10 e10 => K ⟨[(6, S.get 6), (7, S.get 7)], (Eff.hp e10 (S.nx + e7.add.length) (Eff.hp e7 S.nx S.hp)), ((S.nx + e7.add.length) + e10.add.length), S.gh⟩)))))))))))) fun K hK => ?_
        repeat' (first | (refine hK _ ?_; clear hK K) | (refine (?_ : trOk _ _ _ = true); kernel_rfl) | ((first | refine xG_intro (fun hg => ?_) (fun hg => ?_) | refine fun (hg : (_ : Prop)) => ?_) <;> ((try simp only [BQ] at hg); try (exfalso; omega))) | refine And.intro ?_ ?_ | exact cl | refine one_take ?_ _ | refine one_drop ?_ _ | refine .inl ⟨_, _, Around_pure how 7 hh (by decide), ?_⟩ | refine ⟨_, _, Around_pure how 7 hh (by decide), ?_⟩ | refine .inl ⟨_, _, Around_pure by_ 7 hb (by decide), ?_⟩ | refine ⟨_, _, Around_pure by_ 7 hb (by decide), ?_⟩ | refine .inl ⟨_, _, Around_pure by_ 8 hb (by decide), ?_⟩ | refine ⟨_, _, Around_pure by_ 8 hb (by decide), ?_⟩ | refine .inl ⟨_, _, Around_pure by_ 36 hb (by decide), ?_⟩ | refine ⟨_, _, Around_pure by_ 36 hb (by decide), ?_⟩ | refine .inl ⟨_, _, Around_pure by_ ((s.order.length : Int) + 1) hb (by omega), ?_⟩ | refine ⟨_, _, Around_pure by_ ((s.order.length : Int) + 1) hb (by omega), ?_⟩ | (refine st ?_; try simp only [encSpec, oneB_eq, oneB_size, hwl]) | simp only [encSpec, oneB_eq, oneB_size, hwl])
        all_goals try simp (disch := omega) only [wrap_id, wrap8_id]
        all_goals
        refine sZ [6] (fun P S K => XvLoad P 35 (M S.hp S.nx) (S.get 7) (fun r0 _ => XvStore P 35 (M S.hp S.nx) (S.get 6) r0 (fun r1 e1 => K ⟨[(6, S.get 6)], (Eff.hp e1 S.nx S.hp), (S.nx + e1.add.length), S.gh⟩))) fun K hK => ?_
        repeat' (first | (refine hK _ ?_; clear hK K) | ((first | refine xG_intro (fun hg => ?_) (fun hg => ?_) | refine fun (hg : (_ : Prop)) => ?_) <;> ((try simp only [BQ] at hg); try (exfalso; omega))) | refine And.intro ?_ ?_ | exact cl | refine one_take ?_ _ | refine one_drop ?_ _ | (refine st ?_; try simp only [encSpec, oneB_eq, oneB_size]) | simp only [encSpec, oneB_eq, oneB_size])
        all_goals
        refine Tri.ret ?_
        show ResR _ _ _ _ _
        first
          | rw [spo_0 h31]
          | rw [spo_1 h43]
          | rw [spo_4 h88]
          | rw [spo_5 h100]
          | rw [spo_6 h31 h43 h55 h69 h88 h100]
          | (have hii : (12 + around by_ 8).toNat = i := (by omega); rw [spo_2 h55 hii])
          | (have hii : (6 + around by_ 36).toNat = i := (by omega); rw [spo_3 h69 hii])
        refine ResR.cell1 (PV.agg [_, _, _, _]) rfl ?_ (pure_spec _)
        first
          | (simp [sealed, St.obj, lk, encSpec, strs, encS, xS, abS, List.take_of_length_le, List.map_take, ordX_len]; done)
          | (simp [-List.map_map, sealed, St.obj, lk, encSpec, strs, map_sealed_encS, List.take_of_length_le, ordX_len, hle]; done)
          | (simp [-List.map_map, sealed, St.obj, lk, encSpec, strs, map_sealed_encS, List.take_of_length_le, ordX_len, hle, List.map_take])
       ·try (cases h88; done)
        all_goals (try simp only [CQ] at h88)
        all_goals
        refine sY [2, 6, 7, 100] (fun P S K => XvBinOV P .eql 3 (.const (.int .i64 5)) (S.get 24) (.atom (.int .i64 5)) (fun r0 _ => K ⟨[(2, S.get 2), (6, S.get 6), (7, S.get 7), (100, r0)], S.hp, S.nx, S.gh⟩)) ?_
        all_goals
        refine Tri.cond rfl (fun h100 => ?_) (fun h100 => ?_)
        ·try (cases h100; done)
         all_goals (try simp only [CQ] at h100)
         all_goals
         refine rZ [6, 7] (fun P S K => XvFieldAddr P 35 0 (S.get 7) (fun r0 _ => XvLoad P 4 (M S.hp S.nx) r0 (fun r1 _ => XvUn .not r1 (fun r2 _ => XvFieldAddr P 35 0 (S.get 7) (fun r3 _ => XvStore P 4 (M S.hp S.nx) r3 r2 (fun r4 e4 => K ⟨[(6, S.get 6), (7, S.get 7)], (Eff.hp e4 S.nx S.hp), (S.nx + e4.add.length), S.gh⟩)))))) fun K hK => ?_
         repeat' (first | (refine hK _ ?_; clear hK K) | ((first | refine xG_intro (fun hg => ?_) (fun hg => ?_) | refine fun (hg : (_ : Prop)) => ?_) <;> ((try simp only [BQ] at hg); try (exfalso; omega))) | refine And.intro ?_ ?_ | exact cl | refine one_take ?_ _ | refine one_drop ?_ _ | (refine st ?_; try simp only [encSpec, oneB_eq, oneB_size]) | simp only [encSpec, oneB_eq, oneB_size])
         all_goals try simp (disch := omega) only [wrap_id, wrap8_id]
         all_goals
         refine sZ [6] (fun P S K => XvLoad P 35 (M S.hp S.nx) (S.get 7) (fun r0 _ => XvStore P 35 (M S.hp S.nx) (S.get 6) r0 (fun r1 e1 => K ⟨[(6, S.get 6)], (Eff.hp e1 S.nx S.hp), (S.nx + e1.add.length), S.gh⟩))) fun K hK => ?_
         repeat' (first | (refine hK _ ?_; clear hK K) | ((first | refine xG_intro (fun hg => ?_) (fun hg => ?_) | refine fun (hg : (_ : Prop)) => ?_) <;> ((try simp only [BQ] at hg); try (exfalso; omega))) | refine And.intro ?_ ?_ | exact cl | refine one_take ?_ _ | refine one_drop ?_ _ | (refine st ?_; try simp only [encSpec, oneB_eq, oneB_size]) | simp only [encSpec, oneB_eq, oneB_size])
         all_goals
         refine Tri.ret ?_
         show ResR _ _ _ _ _
         first
           | rw [spo_0 h31]
           | rw [spo_1 h43]
           | rw [spo_4 h88]
           | rw [spo_5 h100]
           | rw [spo_6 h31 h43 h55 h69 h88 h100]
           | (have hii : (12 + around by_ 8).toNat = i := (by omega); rw [spo_2 h55 hii])
           | (have hii : (6 + around by_ 36).toNat = i := (by omega); rw [spo_3 h69 hii])
         refine ResR.cell1 (PV.agg [_, _, _, _]) rfl ?_ (pure_spec _)
         first
           | (simp [sealed, St.obj, lk, encSpec, strs, encS, xS, abS, List.take_of_length_le, List.map_take, ordX_len]; done)
           | (simp [-List.map_map, sealed, St.obj, lk, encSpec, strs, map_sealed_encS, List.take_of_length_le, ordX_len, hle]; done)
           | (simp [-List.map_map, sealed, St.obj, lk, encSpec, strs, map_sealed_encS, List.take_of_length_le, ordX_len, hle, List.map_take])
        ·try (cases h100; done)
         all_goals (try simp only [CQ] at h100)
         all_goals
         refine rZ [6, 7] (fun P S K => XvConvert P 3 5 (M S.hp S.nx) (S.get 2) (fun r1 e1 => XvBuildS P 28 1 (S.nx + e1.add.length) [(0, r1)] (fun r2 e2 => XvConvert P 28 9 (M (Eff.hp e2 (S.nx + e1.add.length) (Eff.hp e1 S.nx S.hp)) ((S.nx + e1.add.length) + e2.add.length)) r2 (fun r3 e3 => XvBuildS P 25 2 (((S.nx + e1.add.length) + e2.add.length) + e3.add.length) [(0, r3), (1, (.atom (.string { data := #[97, 98] })))] (fun r4 e4 => XvFieldAddr P 35 3 (S.get 7) (fun r5 _ => XvStore P 25 (M (Eff.hp e4 (((S.nx + e1.add.length) + e2.add.length) + e3.add.length) (Eff.hp e3 ((S.nx + e1.add.length) + e2.add.length) (Eff.hp e2 (S.nx + e1.add.length) (Eff.hp e1 S.nx S.hp)))) ((((S.nx + e1.add.length) + e2.add.length) + e3.add.length) + e4.add.length)) r5 r4 (fun r6 e6 => K ⟨[(6, S.get 6), (7, S.get 7)], (Eff.hp e6 ((((S.nx + e1.add.length) + e2.add.length) + e3.add.length) + e4.add.length) (Eff.hp e4 (((S.nx + e1.add.length) + e2.add.length) + e3.add.length) (Eff.hp e3 ((S.nx + e1.add.length) + e2.add.length) (Eff.hp e2 (S.nx + e1.add.length) (Eff.hp e1 S.nx S.hp))))), (((((S.nx + e1.add.length) + e2.add.length) + e3.add.length) + e4.add.length) + e6.add.length), S.gh⟩))))))) fun K hK => ?_
         repeat' (first | (refine hK _ ?_; clear hK K) | ((first | refine xG_intro (fun hg => ?_) (fun hg => ?_) | refine fun (hg : (_ : Prop)) => ?_) <;> ((try simp only [BQ] at hg); try (exfalso; omega))) | refine And.intro ?_ ?_ | exact cl | refine one_take ?_ _ | refine one_drop ?_ _ | (refine st ?_; try simp only [encSpec, oneB_eq, oneB_size]) | simp only [encSpec, oneB_eq, oneB_size])
         all_goals try simp (disch := omega) only [wrap_id, wrap8_id]
         all_goals
         refine sZ [6] (fun P S K => XvLoad P 35 (M S.hp S.nx) (S.get 7) (fun r0 _ => XvStore P 35 (M S.hp S.nx) (S.get 6) r0 (fun r1 e1 => K ⟨[(6, S.get 6)], (Eff.hp e1 S.nx S.hp), (S.nx + e1.add.length), S.gh⟩))) fun K hK => ?_
         repeat' (first | (refine hK _ ?_; clear hK K) | ((first | refine xG_intro (fun hg => ?_) (fun hg => ?_) | refine fun (hg : (_ : Prop)) => ?_) <;> ((try simp only [BQ] at hg); try (exfalso; omega))) | refine And.intro ?_ ?_ | exact cl | refine one_take ?_ _ | refine one_drop ?_ _ | (refine st ?_; try simp only [encSpec, oneB_eq, oneB_size]) | simp only [encSpec, oneB_eq, oneB_size])
         all_goals
         refine Tri.ret ?_
         show ResR _ _ _ _ _
         first
           | rw [spo_0 h31]
           | rw [spo_1 h43]
           | rw [spo_4 h88]
           | rw [spo_5 h100]
           | rw [spo_6 h31 h43 h55 h69 h88 h100]
           | (have hii : (12 + around by_ 8).toNat = i := (by omega); rw [spo_2 h55 hii])
           | (have hii : (6 + around by_ 36).toNat = i := (by omega); rw [spo_3 h69 hii])
         refine ResR.cell1 (PV.agg [_, _, _, _]) rfl ?_ (pure_spec _)
         first
           | (simp [sealed, St.obj, lk, encSpec, strs, encS, xS, abS, List.take_of_length_le, List.map_take, ordX_len]; done)
           | (simp [-List.map_map, sealed, St.obj, lk, encSpec, strs, map_sealed_encS, List.take_of_length_le, ordX_len, hle]; done)
           | (simp [-List.map_map, sealed, St.obj, lk, encSpec, strs, map_sealed_encS, List.take_of_length_le, ordX_len, hle, List.map_take])
end Go.Proofs.YtfnkciboencifaaDoor
