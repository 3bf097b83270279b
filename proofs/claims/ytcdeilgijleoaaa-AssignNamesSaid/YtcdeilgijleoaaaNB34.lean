/-
  Walks: the search of package assign, one passage more.
-/
import Derived.Test.YtcdeilgijleoaaaNA1
import Derived.Test.YtcdeilgijleoaaaNB33
set_option linter.all false
namespace Go.Proofs.Ytcdeilgijleoaaa
open Go Go.RowKit
set_option maxRecDepth 20000
set_option maxHeartbeats 4000000
theorem leq9B34 {p : Prop} (h : p := by (refine ⟨4, ?_, ?_, rfl, by simp, rfl, fun i h _ => (match i, h with | 0, _ => (by first | rfl | simp [sealed, PV.ren, rmap]) | 1, _ => (by first | rfl | simp [sealed, PV.ren, rmap]) | 2, _ => (by first | rfl | simp [sealed, PV.ren, rmap]) | 3, _ => (by first | rfl | simp [sealed, PV.ren, rmap]) | 4, _ => (by first | rfl | simp [sealed, PV.ren, rmap]) | 5, _ => (by first | rfl | simp [sealed, PV.ren, rmap]) | 6, _ => (by first | rfl | simp [sealed, PV.ren, rmap]) | 7, _ => (by first | rfl | simp [sealed, PV.ren, rmap]) | 8, _ => (by first | rfl | simp [sealed, PV.ren, rmap]) | i + 9, h => absurd h (by simp))⟩ <;> (simp only [List.forall_mem_cons]; repeat' (first | refine And.intro ?_ ?_ | (intro p hp; exact absurd hp List.not_mem_nil) | rfl | exact sp (pure_case _) | exact sp (pure_pairs _) | exact sp (pure_nats _) | exact (sealed_pure _ _ _ (pure_ints _)).trans (ren_ints _ _).symm | exact (sealed_pure _ _ _ (pure_strs _)).trans (ren_strs _ _).symm | exact sp (by assumption) | (intro o ho; cases ho; refine ⟨by decide, ?_⟩; first | (refine LeqS.row rfl ?_ ?_; (next => (first | rfl | (simp only [List.map_append, List.map_cons, List.map_nil, List.append_nil, List.nil_append, List.append_assoc, List.cons_append, encI, encS, ints, strs]; done) | (simp [encI, encS, ints, strs, encP, encN, List.map_set]; done))); (next => (first | rfl | exact pureL_encI _ | exact pureL_encS _ | exact pureL_ints _ | exact pureL_strs _ | exact pureL_encP _ | exact pureL_encN _ | (simp [pureL_append, pureL_encI, pureL_encS, pureL_ints, pureL_strs, pureL, PV.pure, pure_ints, pure_strs, pure_case, pureL_encP, pure_pairs, pureL_encN, pure_nats]; done))); done) | refine ⟨_, rfl, rfl, ?_⟩) | (simp [St.born, St.known, retV, St.get, St.obj, lk, sealed, PV.ren, renL, rmap, AO.ren, ints, strs, encI, encS, map_sealed_encI, map_sealed_encS, map_sealed_ints, map_sealed_strs, map_ren_encI, map_ren_encS, map_ren_ints, map_ren_strs, renL_encI, renL_encS, renL_ints, renL_strs, ren_case, encC, pairs, renL_encP, map_sealed_encP, map_ren_encP, encP, take_map_len, renL_encN, map_sealed_encN, map_ren_encN, nats] <;> omega)))); first | done | fail) : p := h
theorem vProc.wholeS {P : Program} {S : St} {f : FuncId} {vals args : List PV} {hp : List AO} {r : PV} {hp' : List (Option AO)} {K : PV → Eff → Prop} (L : List Nat) (sets : List (Nat × AO)) (hpr : Proc P f args hp r hp' []) (hn : L.Nodup) (hl : L.length = hp.length)
    (hv : vals = args.map (PV.ren (rmap L S.nx))) (ho : ∀ j o, hp[j]? = some o → ∃ o', S.obj (rmap L S.nx j) = some o' ∧ o'.sz = o.sz ∧ o'.els = o.els.map (PV.ren (rmap L S.nx))) (hd : procDel L hp' = []) (hs : procSet (pmap L S.nx) L hp' = sets) (hr : r.ren (pmap L S.nx) = r) (hk : K r ⟨[], [], sets, []⟩) : vProc P S f vals K :=
  vProc.whole L hpr hn hl hv ho (by rw [hd, hs, hr]; exact hk)
def ExOk (c : CaseD) (i : Nat) (now : List (Int × Int)) (loads : List Int) (best : List (Int × Int)) (least : Int) : Prop :=
  now.length = c.sizes.length ∧ LoadOk c loads ∧ (∀ x, x ∈ loads → 0 ≤ x ∧ x ≤ 2048 * (i : Int)) ∧ best.length ≤ c.sizes.length ∧ 0 ≤ least ∧ least ≤ 9223372036854775807
theorem exG_bound {c : CaseD} (hs : ∀ x, x ∈ c.sizes → 0 ≤ x) {k : Nat} {now : List (Int × Int)} {loads : List Int} {best : List (Int × Int)} {least : Int} (hk : k ≤ c.sizes.length) (hn : now.length = c.sizes.length) (hb : best.length ≤ c.sizes.length) (h0 : 0 ≤ least) :
    (exG c k now loads (best, least)).1.length = c.sizes.length ∧ (exG c k now loads (best, least)).2.1.length ≤ c.sizes.length ∧ 0 ≤ (exG c k now loads (best, least)).2.2 ∧ (exG c k now loads (best, least)).2.2 ≤ least := by
  obtain ⟨g1, g2⟩ := exG_best (c := c) (fun l h => Nat.le_of_eq h) k now loads (best, least) hn hb
  obtain ⟨_, _, g3⟩ := exG_exF k now loads (best, least) hk hn
  have := exF_two hs k (now.take (c.sizes.length - k)) loads (best, least) h0
  rw [← g3] at this
  exact ⟨g1, g2, this.1, this.2⟩
theorem bit_shut (c : CaseD) (i : Int) {p : Nat} (h1 : (p : Int) < c.people) (h2 : c.people ≤ 6) : decide (bits .and .u64 (((maskN (fun (p : Nat) => openB c i p) c.people.toNat : Nat) : Int).fdiv (2 ^ min p IntKind.u64.bits)) 1 = 0) = !openB c i p := by
  have := mask_bit (fun (p : Nat) => openB c i p) (n := c.people.toNat) (p := p) (by omega) (by omega)
  show decide (bits .and .u64 (((maskN (fun (p : Nat) => openB c i p) c.people.toNat : Nat) : Int).fdiv (2 ^ min p 64)) 1 = 0) = !openB c i p
  rw [this]
  cases openB c i p <;> rfl
theorem ho9 {p : Prop} (h : p := by intro j o h; (match j, h with | 0, h => (cases h; refine ⟨_, rfl, rfl, ?_⟩; first | rfl | (simp [-List.map_map, -List.map_set, sealed, PV.ren, renL, rmap, pmap, procSet, procDel, AO.ren, encC, pairs, nats, ints, encI, renL_encP, renL_encI, renL_encN, map_ren_encP, map_ren_encI, map_ren_encN, St.obj, lk]; done)) | 1, h => (cases h; refine ⟨_, rfl, rfl, ?_⟩; first | rfl | (simp [-List.map_map, -List.map_set, sealed, PV.ren, renL, rmap, pmap, procSet, procDel, AO.ren, encC, pairs, nats, ints, encI, renL_encP, renL_encI, renL_encN, map_ren_encP, map_ren_encI, map_ren_encN, St.obj, lk]; done)) | 2, h => (cases h; refine ⟨_, rfl, rfl, ?_⟩; first | rfl | (simp [-List.map_map, -List.map_set, sealed, PV.ren, renL, rmap, pmap, procSet, procDel, AO.ren, encC, pairs, nats, ints, encI, renL_encP, renL_encI, renL_encN, map_ren_encP, map_ren_encI, map_ren_encN, St.obj, lk]; done)) | 3, h => (cases h; refine ⟨_, rfl, rfl, ?_⟩; first | rfl | (simp [-List.map_map, -List.map_set, sealed, PV.ren, renL, rmap, pmap, procSet, procDel, AO.ren, encC, pairs, nats, ints, encI, renL_encP, renL_encI, renL_encN, map_ren_encP, map_ren_encI, map_ren_encN, St.obj, lk]; done)) | 4, h => (cases h; refine ⟨_, rfl, rfl, ?_⟩; first | rfl | (simp [-List.map_map, -List.map_set, sealed, PV.ren, renL, rmap, pmap, procSet, procDel, AO.ren, encC, pairs, nats, ints, encI, renL_encP, renL_encI, renL_encN, map_ren_encP, map_ren_encI, map_ren_encN, St.obj, lk]; done)) | 5, h => (cases h; refine ⟨_, rfl, rfl, ?_⟩; first | rfl | (simp [-List.map_map, -List.map_set, sealed, PV.ren, renL, rmap, pmap, procSet, procDel, AO.ren, encC, pairs, nats, ints, encI, renL_encP, renL_encI, renL_encN, map_ren_encP, map_ren_encI, map_ren_encN, St.obj, lk]; done)) | 6, h => (cases h; refine ⟨_, rfl, rfl, ?_⟩; first | rfl | (simp [-List.map_map, -List.map_set, sealed, PV.ren, renL, rmap, pmap, procSet, procDel, AO.ren, encC, pairs, nats, ints, encI, renL_encP, renL_encI, renL_encN, map_ren_encP, map_ren_encI, map_ren_encN, St.obj, lk]; done)) | 7, h => (cases h; refine ⟨_, rfl, rfl, ?_⟩; first | rfl | (simp [-List.map_map, -List.map_set, sealed, PV.ren, renL, rmap, pmap, procSet, procDel, AO.ren, encC, pairs, nats, ints, encI, renL_encP, renL_encI, renL_encN, map_ren_encP, map_ren_encI, map_ren_encN, St.obj, lk]; done)) | 8, h => (cases h; refine ⟨_, rfl, rfl, ?_⟩; first | rfl | (simp [-List.map_map, -List.map_set, sealed, PV.ren, renL, rmap, pmap, procSet, procDel, AO.ren, encC, pairs, nats, ints, encI, renL_encP, renL_encI, renL_encN, map_ren_encP, map_ren_encI, map_ren_encN, St.obj, lk]; done)) | j + 9, h => simp at h)) : p := h
theorem addN_enc (l : List Int) (k : Nat) (v : Int) : (l.map encI).set k (PV.atom (.int .i64 (li l k + v))) = (addAt l (k : Int) v).map encI := addAt_enc l (k : Int) v
theorem subN_enc (l : List Int) (k : Nat) (v : Int) : (l.map encI).set k (PV.atom (.int .i64 (li l k - v))) = (addAt l (k : Int) (-v)).map encI := subAt_enc l (k : Int) v
theorem place_step (c : CaseD) (hG : Good c) (k i : Nat) (hki : i + (k + 1) = c.sizes.length) (now : List (Int × Int)) (loads : List Int) (best : List (Int × Int)) (least : Int) (hok : ExOk c i now loads best least)
    (ih : ∀ (now : List (Int × Int)) (loads : List Int) (best : List (Int × Int)) (least : Int), ExOk c (i + 1) now loads best least → Proc Try.prog 71 [encI ((i : Int) + 1), .ptr 0 1 0 0, .ptr 1 1 0 0, .ptr 2 1 0 0, .ptr 3 1 0 0, .ptr 4 3 0 0, .ptr 5 1 0 0, .ptr 6 1 0 0] [⟨1, [.ob 7 2 0 c.sizes.length]⟩, ⟨1, [.ob 8 1 0 c.people.toNat]⟩, ⟨1, [encI least]⟩, ⟨1, [pairs best]⟩, ⟨3, [encC c]⟩, ⟨1, [nats (opens c)]⟩, ⟨1, [.fn 71 [.ptr 0 1 0 0, .ptr 1 1 0 0, .ptr 2 1 0 0, .ptr 3 1 0 0, .ptr 4 3 0 0, .ptr 5 1 0 0, .ptr 6 1 0 0]]⟩, ⟨2, now.map encP⟩, ⟨1, loads.map encI⟩] (.tup []) [some ⟨1, [.ob 7 2 0 c.sizes.length]⟩, some ⟨1, [.ob 8 1 0 c.people.toNat]⟩, some ⟨1, [encI (exG c k now loads (best, least)).2.2]⟩, some ⟨1, [pairs (exG c k now loads (best, least)).2.1]⟩, some ⟨3, [encC c]⟩, some ⟨1, [nats (opens c)]⟩, some ⟨1, [.fn 71 [.ptr 0 1 0 0, .ptr 1 1 0 0, .ptr 2 1 0 0, .ptr 3 1 0 0, .ptr 4 3 0 0, .ptr 5 1 0 0, .ptr 6 1 0 0]]⟩, some ⟨2, (exG c k now loads (best, least)).1.map encP⟩, some ⟨1, loads.map encI⟩] []) :
    Proc Try.prog 71 [encI (i : Nat), .ptr 0 1 0 0, .ptr 1 1 0 0, .ptr 2 1 0 0, .ptr 3 1 0 0, .ptr 4 3 0 0, .ptr 5 1 0 0, .ptr 6 1 0 0] [⟨1, [.ob 7 2 0 c.sizes.length]⟩, ⟨1, [.ob 8 1 0 c.people.toNat]⟩, ⟨1, [encI least]⟩, ⟨1, [pairs best]⟩, ⟨3, [encC c]⟩, ⟨1, [nats (opens c)]⟩, ⟨1, [.fn 71 [.ptr 0 1 0 0, .ptr 1 1 0 0, .ptr 2 1 0 0, .ptr 3 1 0 0, .ptr 4 3 0 0, .ptr 5 1 0 0, .ptr 6 1 0 0]]⟩, ⟨2, now.map encP⟩, ⟨1, loads.map encI⟩] (.tup []) [some ⟨1, [.ob 7 2 0 c.sizes.length]⟩, some ⟨1, [.ob 8 1 0 c.people.toNat]⟩, some ⟨1, [encI (exG c (k + 1) now loads (best, least)).2.2]⟩, some ⟨1, [pairs (exG c (k + 1) now loads (best, least)).2.1]⟩, some ⟨3, [encC c]⟩, some ⟨1, [nats (opens c)]⟩, some ⟨1, [.fn 71 [.ptr 0 1 0 0, .ptr 1 1 0 0, .ptr 2 1 0 0, .ptr 3 1 0 0, .ptr 4 3 0 0, .ptr 5 1 0 0, .ptr 6 1 0 0]]⟩, some ⟨2, (exG c (k + 1) now loads (best, least)).1.map encP⟩, some ⟨1, loads.map encI⟩] [] := by
  obtain ⟨hn, hl, hr, hb0, hl0, hl1⟩ := hok
  have hmany := hG.many
  have hlo := hG.lo
  have hhi := hG.hi
  have hll := hl.len
  have hil : i < c.sizes.length := by omega
  have hie : c.sizes.length - (k + 1) = i := by omega
  have hsz := li_rng (m := 0) (M := 1024) (fun x hx => by have := hG.size x hx; omega) (by omega) i
  have hog := opens_get hil
  have hio : i < (opens c).length := by rw [opens_len]; exact hil
  have hra := li_rng hr (by omega)
  refine Proc.intro (ts := []) Try.func71 (by kernel_rfl) rfl rfl rfl (Nat.le_of_ble_eq_true rfl) rfl ?_
  simp only [objEnv, marks, List.map_cons, List.map_nil, List.length_cons, List.length_nil, Nat.zero_add, Nat.reduceAdd]
  refine Tri.scope ?_
  refine Tri.seq ?_
  refine sZ [0, 1, 2, 3, 4, 5, 6, 7, 16] (fun P S K => XvLoad P 23 (M S.hp S.nx) (S.get 1) (fun r1 _ => XvLen P 23 r1 (fun r2 _ => XvBinOV P .eql 3 (.tmp 15) (S.get 0) r2 (fun r3 _ => K ⟨[(0, S.get 0), (1, S.get 1), (2, S.get 2), (3, S.get 3), (4, S.get 4), (5, S.get 5), (6, S.get 6), (7, S.get 7), (16, r3)], S.hp, S.nx, S.gh⟩)))) fun K hK => ?_
  repeat' (first | (refine hK _ ?_; clear hK K) | refine And.intro ?_ ?_ | exact cl | simp (maxSteps := 2000000) only [↓SD, push_cast, Nat.reduceAdd, Nat.reduceSub, Nat.reduceMul, Nat.reduceLT, Nat.reduceLeDiff, Nat.reduceEqDiff, Int.reduceToNat, reduceIte, reduceCtorEq, Int.reduceLE, Int.reduceLT, Int.reduceNeg, ints, strs, encI, encS, encC, pairs, nats, encP, dec_no (show ¬ (i : Int) = (c.sizes.length : Int) by omega)])
  all_goals
  refine Tri.cond rfl (fun h16 => ?_) (fun h16 => ?_)
  ·try (cases h16; done)
   all_goals (try simp only [CQ] at h16)
   all_goals
   refine Tri.seq ?_
   refine sZ [1, 3, 4, 9] (fun P S K => XvLoad P 22 (M S.hp S.nx) (S.get 2) (fun r0 _ => XvFnIV P (M S.hp S.nx) (.fn 52 []) [r0] (fun r1 ef1 => K ⟨[(1, S.get 1), (3, S.get 3), (4, S.get 4), (9, r1)], (Eff.hp ef1 S.nx S.hp), (S.nx + ef1.add.length), S.gh⟩))) fun K hK => ?_
   repeat' (first | (refine hK _ ?_; clear hK K) | refine And.intro ?_ ?_ | exact cl | refine .inr (vProc.wholeS [0, 1, 2, 3, 4, 5, 6, 7, 8] [(0, ⟨1, [.ob 7 2 0 c.sizes.length]⟩), (1, ⟨1, [.ob 8 1 0 c.people.toNat]⟩), (2, ⟨1, [encI (exG c k (nw2.set i ((a : Int), (b : Int))) (loadStep c loads i ((a : Int), (b : Int))) (bs2, ls2)).2.2]⟩), (3, ⟨1, [pairs (exG c k (nw2.set i ((a : Int), (b : Int))) (loadStep c loads i ((a : Int), (b : Int))) (bs2, ls2)).2.1]⟩), (4, ⟨3, [encC c]⟩), (5, ⟨1, [nats (opens c)]⟩), (6, ⟨1, [.fn 71 [.ptr 0 1 0 0, .ptr 1 1 0 0, .ptr 2 1 0 0, .ptr 3 1 0 0, .ptr 4 3 0 0, .ptr 5 1 0 0, .ptr 6 1 0 0]]⟩), (7, ⟨2, (exG c k (nw2.set i ((a : Int), (b : Int))) (loadStep c loads i ((a : Int), (b : Int))) (bs2, ls2)).1.map encP⟩), (8, ⟨1, (loadStep c loads i ((a : Int), (b : Int))).map encI⟩)] hih (by decide) rfl (by simp [-List.map_map, -List.map_set, sealed, PV.ren, renL, rmap, pmap, procSet, procDel, AO.ren, encC, pairs, nats, ints, encI, renL_encP, renL_encI, renL_encN, map_ren_encP, map_ren_encI, map_ren_encN, St.obj, lk]) ho9 rfl (by simp [-List.map_map, -List.map_set, sealed, PV.ren, renL, rmap, pmap, procSet, procDel, AO.ren, encC, pairs, nats, ints, encI, renL_encP, renL_encI, renL_encN, map_ren_encP, map_ren_encI, map_ren_encN, St.obj, lk]) rfl ?_) | (refine st ?_; try simp only [encC, pairs, nats, encP]) | simp only [encC, pairs, nats, encP])
   all_goals
   refine sZ [1, 3, 4, 9, 21] (fun P S K => XvLoad P 3 (M S.hp S.nx) (S.get 3) (fun r1 _ => XvBinOV P .lss 3 (.tmp 20) (S.get 9) r1 (fun r2 _ => K ⟨[(1, S.get 1), (3, S.get 3), (4, S.get 4), (9, S.get 9), (21, r2)], S.hp, S.nx, S.gh⟩))) fun K hK => ?_
   repeat' (first | (refine hK _ ?_; clear hK K) | refine And.intro ?_ ?_ | exact cl | (refine st ?_; try simp only [encC, pairs, nats, encP]) | simp only [encC, pairs, nats, encP])
   all_goals
   refine Tri.cond rfl (fun h21 => ?_) (fun h21 => ?_)
   ·try (cases h21; done)
    all_goals (try simp only [CQ] at h21)
    all_goals
    refine rZ [] (fun P S K => XvLoad P 23 (M S.hp S.nx) (S.get 1) (fun r0 _ => XvFnIV P (M S.hp S.nx) (.fn 72 []) [r0] (fun r1 ef1 => XvStore P 23 (M (Eff.hp ef1 S.nx S.hp) (S.nx + ef1.add.length)) (S.get 4) r1 (fun r3 ef3 => XvStore P 3 (M (Eff.hp ef3 (S.nx + ef1.add.length) (Eff.hp ef1 S.nx S.hp)) ((S.nx + ef1.add.length) + ef3.add.length)) (S.get 3) (S.get 9) (fun r4 ef4 => K ⟨[], (Eff.hp ef4 ((S.nx + ef1.add.length) + ef3.add.length) (Eff.hp ef3 (S.nx + ef1.add.length) (Eff.hp ef1 S.nx S.hp))), (((S.nx + ef1.add.length) + ef3.add.length) + ef4.add.length), S.gh⟩))))) fun K hK => ?_
    repeat' (first | (refine hK _ ?_; clear hK K) | refine And.intro ?_ ?_ | exact cl | refine .inr (vProc.wholeS [0, 1, 2, 3, 4, 5, 6, 7, 8] [(0, ⟨1, [.ob 7 2 0 c.sizes.length]⟩), (1, ⟨1, [.ob 8 1 0 c.people.toNat]⟩), (2, ⟨1, [encI (exG c k (nw2.set i ((a : Int), (b : Int))) (loadStep c loads i ((a : Int), (b : Int))) (bs2, ls2)).2.2]⟩), (3, ⟨1, [pairs (exG c k (nw2.set i ((a : Int), (b : Int))) (loadStep c loads i ((a : Int), (b : Int))) (bs2, ls2)).2.1]⟩), (4, ⟨3, [encC c]⟩), (5, ⟨1, [nats (opens c)]⟩), (6, ⟨1, [.fn 71 [.ptr 0 1 0 0, .ptr 1 1 0 0, .ptr 2 1 0 0, .ptr 3 1 0 0, .ptr 4 3 0 0, .ptr 5 1 0 0, .ptr 6 1 0 0]]⟩), (7, ⟨2, (exG c k (nw2.set i ((a : Int), (b : Int))) (loadStep c loads i ((a : Int), (b : Int))) (bs2, ls2)).1.map encP⟩), (8, ⟨1, (loadStep c loads i ((a : Int), (b : Int))).map encI⟩)] hih (by decide) rfl (by simp [-List.map_map, -List.map_set, sealed, PV.ren, renL, rmap, pmap, procSet, procDel, AO.ren, encC, pairs, nats, ints, encI, renL_encP, renL_encI, renL_encN, map_ren_encP, map_ren_encI, map_ren_encN, St.obj, lk]) ho9 rfl (by simp [-List.map_map, -List.map_set, sealed, PV.ren, renL, rmap, pmap, procSet, procDel, AO.ren, encC, pairs, nats, ints, encI, renL_encP, renL_encI, renL_encN, map_ren_encP, map_ren_encI, map_ren_encN, St.obj, lk]) rfl ?_) | (refine st ?_; try simp only [encC, pairs, nats, encP]) | simp only [encC, pairs, nats, encP])
    all_goals
    refine Tri.ret ?_
    show ResP _ _ _ _ _ _
    have hae : a = c.people.toNat := by omega
    subst hae
    have hfin : exG c (k + 1) now loads (best, least) = (nw, (bs, ls)) := by
      rw [hst]
      unfold exG pairsOf
      rw [hie]
    rw [hfin]
    show ResP _ _ _ _ _ _
    exact ResP.nine (fun j o h => by (match j, h with | 0, h => (cases h; refine ⟨_, rfl, rfl, ?_⟩; first | rfl | (simp [-List.map_map, -List.map_set, sealed, PV.ren, renL, rmap, encC, pairs, nats, ints, encI, renL_encP, renL_encI, renL_encN, map_sealed_encP, map_sealed_encI, map_sealed_encN, map_ren_encP, map_ren_encI, map_ren_encN, St.obj, lk, List.take_of_length_le]; done)) | 1, h => (cases h; refine ⟨_, rfl, rfl, ?_⟩; first | rfl | (simp [-List.map_map, -List.map_set, sealed, PV.ren, renL, rmap, encC, pairs, nats, ints, encI, renL_encP, renL_encI, renL_encN, map_sealed_encP, map_sealed_encI, map_sealed_encN, map_ren_encP, map_ren_encI, map_ren_encN, St.obj, lk, List.take_of_length_le]; done)) | 2, h => (cases h; refine ⟨_, rfl, rfl, ?_⟩; first | rfl | (simp [-List.map_map, -List.map_set, sealed, PV.ren, renL, rmap, encC, pairs, nats, ints, encI, renL_encP, renL_encI, renL_encN, map_sealed_encP, map_sealed_encI, map_sealed_encN, map_ren_encP, map_ren_encI, map_ren_encN, St.obj, lk, List.take_of_length_le]; done)) | 3, h => (cases h; refine ⟨_, rfl, rfl, ?_⟩; first | rfl | (simp [-List.map_map, -List.map_set, sealed, PV.ren, renL, rmap, encC, pairs, nats, ints, encI, renL_encP, renL_encI, renL_encN, map_sealed_encP, map_sealed_encI, map_sealed_encN, map_ren_encP, map_ren_encI, map_ren_encN, St.obj, lk, List.take_of_length_le]; done)) | 4, h => (cases h; refine ⟨_, rfl, rfl, ?_⟩; first | rfl | (simp [-List.map_map, -List.map_set, sealed, PV.ren, renL, rmap, encC, pairs, nats, ints, encI, renL_encP, renL_encI, renL_encN, map_sealed_encP, map_sealed_encI, map_sealed_encN, map_ren_encP, map_ren_encI, map_ren_encN, St.obj, lk, List.take_of_length_le]; done)) | 5, h => (cases h; refine ⟨_, rfl, rfl, ?_⟩; first | rfl | (simp [-List.map_map, -List.map_set, sealed, PV.ren, renL, rmap, encC, pairs, nats, ints, encI, renL_encP, renL_encI, renL_encN, map_sealed_encP, map_sealed_encI, map_sealed_encN, map_ren_encP, map_ren_encI, map_ren_encN, St.obj, lk, List.take_of_length_le]; done)) | 6, h => (cases h; refine ⟨_, rfl, rfl, ?_⟩; first | rfl | (simp [-List.map_map, -List.map_set, sealed, PV.ren, renL, rmap, encC, pairs, nats, ints, encI, renL_encP, renL_encI, renL_encN, map_sealed_encP, map_sealed_encI, map_sealed_encN, map_ren_encP, map_ren_encI, map_ren_encN, St.obj, lk, List.take_of_length_le]; done)) | 7, h => (cases h; refine ⟨_, rfl, rfl, ?_⟩; first | rfl | (simp [-List.map_map, -List.map_set, sealed, PV.ren, renL, rmap, encC, pairs, nats, ints, encI, renL_encP, renL_encI, renL_encN, map_sealed_encP, map_sealed_encI, map_sealed_encN, map_ren_encP, map_ren_encI, map_ren_encN, St.obj, lk, List.take_of_length_le]; done)) | 8, h => (cases h; refine ⟨_, rfl, rfl, ?_⟩; first | rfl | (simp [-List.map_map, -List.map_set, sealed, PV.ren, renL, rmap, encC, pairs, nats, ints, encI, renL_encP, renL_encI, renL_encN, map_sealed_encP, map_sealed_encI, map_sealed_encN, map_ren_encP, map_ren_encI, map_ren_encN, St.obj, lk, List.take_of_length_le]; done)) | j + 9, h => simp at h)) rfl rfl rfl rfl
   ·try (cases h21; done)
    all_goals (try simp only [CQ] at h21)
    all_goals
    refine Tri.skip ?_
    refine Tri.ret ?_
    show ResP _ _ _ _ _ _
    have hae : a = c.people.toNat := by omega
    subst hae
    have hfin : exG c (k + 1) now loads (best, least) = (nw, (bs, ls)) := by
      rw [hst]
      unfold exG pairsOf
      rw [hie]
    rw [hfin]
    show ResP _ _ _ _ _ _
    exact ResP.nine (fun j o h => by (match j, h with | 0, h => (cases h; refine ⟨_, rfl, rfl, ?_⟩; first | rfl | (simp [-List.map_map, -List.map_set, sealed, PV.ren, renL, rmap, encC, pairs, nats, ints, encI, renL_encP, renL_encI, renL_encN, map_sealed_encP, map_sealed_encI, map_sealed_encN, map_ren_encP, map_ren_encI, map_ren_encN, St.obj, lk, List.take_of_length_le]; done)) | 1, h => (cases h; refine ⟨_, rfl, rfl, ?_⟩; first | rfl | (simp [-List.map_map, -List.map_set, sealed, PV.ren, renL, rmap, encC, pairs, nats, ints, encI, renL_encP, renL_encI, renL_encN, map_sealed_encP, map_sealed_encI, map_sealed_encN, map_ren_encP, map_ren_encI, map_ren_encN, St.obj, lk, List.take_of_length_le]; done)) | 2, h => (cases h; refine ⟨_, rfl, rfl, ?_⟩; first | rfl | (simp [-List.map_map, -List.map_set, sealed, PV.ren, renL, rmap, encC, pairs, nats, ints, encI, renL_encP, renL_encI, renL_encN, map_sealed_encP, map_sealed_encI, map_sealed_encN, map_ren_encP, map_ren_encI, map_ren_encN, St.obj, lk, List.take_of_length_le]; done)) | 3, h => (cases h; refine ⟨_, rfl, rfl, ?_⟩; first | rfl | (simp [-List.map_map, -List.map_set, sealed, PV.ren, renL, rmap, encC, pairs, nats, ints, encI, renL_encP, renL_encI, renL_encN, map_sealed_encP, map_sealed_encI, map_sealed_encN, map_ren_encP, map_ren_encI, map_ren_encN, St.obj, lk, List.take_of_length_le]; done)) | 4, h => (cases h; refine ⟨_, rfl, rfl, ?_⟩; first | rfl | (simp [-List.map_map, -List.map_set, sealed, PV.ren, renL, rmap, encC, pairs, nats, ints, encI, renL_encP, renL_encI, renL_encN, map_sealed_encP, map_sealed_encI, map_sealed_encN, map_ren_encP, map_ren_encI, map_ren_encN, St.obj, lk, List.take_of_length_le]; done)) | 5, h => (cases h; refine ⟨_, rfl, rfl, ?_⟩; first | rfl | (simp [-List.map_map, -List.map_set, sealed, PV.ren, renL, rmap, encC, pairs, nats, ints, encI, renL_encP, renL_encI, renL_encN, map_sealed_encP, map_sealed_encI, map_sealed_encN, map_ren_encP, map_ren_encI, map_ren_encN, St.obj, lk, List.take_of_length_le]; done)) | 6, h => (cases h; refine ⟨_, rfl, rfl, ?_⟩; first | rfl | (simp [-List.map_map, -List.map_set, sealed, PV.ren, renL, rmap, encC, pairs, nats, ints, encI, renL_encP, renL_encI, renL_encN, map_sealed_encP, map_sealed_encI, map_sealed_encN, map_ren_encP, map_ren_encI, map_ren_encN, St.obj, lk, List.take_of_length_le]; done)) | 7, h => (cases h; refine ⟨_, rfl, rfl, ?_⟩; first | rfl | (simp [-List.map_map, -List.map_set, sealed, PV.ren, renL, rmap, encC, pairs, nats, ints, encI, renL_encP, renL_encI, renL_encN, map_sealed_encP, map_sealed_encI, map_sealed_encN, map_ren_encP, map_ren_encI, map_ren_encN, St.obj, lk, List.take_of_length_le]; done)) | 8, h => (cases h; refine ⟨_, rfl, rfl, ?_⟩; first | rfl | (simp [-List.map_map, -List.map_set, sealed, PV.ren, renL, rmap, encC, pairs, nats, ints, encI, renL_encP, renL_encI, renL_encN, map_sealed_encP, map_sealed_encI, map_sealed_encN, map_ren_encP, map_ren_encI, map_ren_encN, St.obj, lk, List.take_of_length_le]; done)) | j + 9, h => simp at h)) rfl rfl rfl rfl
  ·try (cases h16; done)
   all_goals (try simp only [CQ] at h16)
   all_goals
   refine Tri.skip ?_
   refine sZ [0, 1, 2, 3, 5, 6, 7, 10] (fun P S K => XvFieldAddr P 38 0 (S.get 5) (fun r0 _ => XvLoad P 22 (M S.hp S.nx) r0 (fun r1 _ => XvIndexAddr P 22 r1 (S.get 0) (fun r3 _ => XvLoad P 3 (M S.hp S.nx) r3 (fun r4 _ => K ⟨[(0, S.get 0), (1, S.get 1), (2, S.get 2), (3, S.get 3), (5, S.get 5), (6, S.get 6), (7, S.get 7), (10, r4)], S.hp, S.nx, S.gh⟩))))) fun K hK => ?_
   repeat' (first | (refine hK _ ?_; clear hK K) | refine And.intro ?_ ?_ | exact cl | (refine st ?_; try simp only [encC, pairs, nats, encP, getD_encI hil]) | simp only [encC, pairs, nats, encP, getD_encI hil])
   all_goals
   refine Tri.seq ?_
   refine Tri.label ?_
   refine sZ [0, 1, 2, 3, 5, 6, 7, 10, 31, 32] (fun P S K => XvFieldAddr P 38 1 (S.get 5) (fun r0 _ => XvLoad P 3 (M S.hp S.nx) r0 (fun r1 _ => K ⟨[(0, S.get 0), (1, S.get 1), (2, S.get 2), (3, S.get 3), (5, S.get 5), (6, S.get 6), (7, S.get 7), (10, S.get 10), (31, r1), (32, (.atom (.int .i64 0)))], S.hp, S.nx, S.gh⟩))) fun K hK => ?_
   repeat' (first | (refine hK _ ?_; clear hK K) | refine And.intro ?_ ?_ | exact cl | (refine st ?_; try simp only [encC, pairs, nats, encP]) | simp only [encC, pairs, nats, encP])
   all_goals
   refine Tri.block ?_
   refine Tri.loop (α := (nw : List (Int × Int)) ×' (bs : List (Int × Int)) ×' (ls : Int) ×' (a : Nat) ×' ((a : Int) ≤ c.people ∧ (nw, (bs, ls)) = (allPr c i c.people.toNat a).foldl (exGStep (exG c k) c i loads) (now, (best, least)) ∧ nw.length = c.sizes.length ∧ bs.length ≤ c.sizes.length ∧ 0 ≤ ls ∧ ls ≤ 9223372036854775807)) (fun z => (fun (nw : List (Int × Int)) (bs : List (Int × Int)) (ls : Int) (a : Nat) => (⟨[(0, encI i), (1, .ptr 0 1 0 0), (2, .ptr 1 1 0 0), (3, .ptr 2 1 0 0), (5, .ptr 4 3 0 0), (6, .ptr 5 1 0 0), (7, .ptr 6 1 0 0), (10, encI (li c.sizes i)), (31, encI c.people), (32, encI a)], [(0, some ⟨1, [.ob 7 2 0 c.sizes.length]⟩), (1, some ⟨1, [.ob 8 1 0 c.people.toNat]⟩), (2, some ⟨1, [encI ls]⟩), (3, some ⟨1, [pairs bs]⟩), (4, some ⟨3, [encC c]⟩), (5, some ⟨1, [nats (opens c)]⟩), (6, some ⟨1, [.fn 71 [.ptr 0 1 0 0, .ptr 1 1 0 0, .ptr 2 1 0 0, .ptr 3 1 0 0, .ptr 4 3 0 0, .ptr 5 1 0 0, .ptr 6 1 0 0]]⟩), (7, some ⟨2, nw.map encP⟩), (8, some ⟨1, loads.map encI⟩)], 9, [.ob 0 1 0 0, .ob 1 1 0 0, .ob 2 1 0 0, .ob 3 1 0 0, .ob 4 3 0 0, .ob 5 1 0 0, .ob 6 1 0 0, .ob 7 2 0 0, .ob 8 1 0 0]⟩ : St)) z.1 z.2.1 z.2.2.1 z.2.2.2.1) (fun z => (fun (nw : List (Int × Int)) (bs : List (Int × Int)) (ls : Int) (a : Nat) => 6 - a) z.1 z.2.1 z.2.2.1 z.2.2.2.1) ⟨now, best, least, 0, ⟨by omega, rfl, hn, hb0, hl0, hl1⟩⟩ [0, 1, 2, 3, 4, 5, 6, 7, 8] ?_ ?_
   ·exact leq9B34
   ·rintro ⟨nw, bs, ls, a, ⟨ha, hst, hnw, hbs, hls0, hls1⟩⟩
    refine sY [0, 1, 2, 3, 5, 6, 7, 10, 31, 32, 33] (fun P S K => XvBinOV P .lss 3 (.tmp 31) (S.get 32) (S.get 31) (fun r0 _ => K ⟨[(0, S.get 0), (1, S.get 1), (2, S.get 2), (3, S.get 3), (5, S.get 5), (6, S.get 6), (7, S.get 7), (10, S.get 10), (31, S.get 31), (32, S.get 32), (33, r0)], S.hp, S.nx, S.gh⟩)) ?_
    all_goals
    refine Tri.seq ?_
    refine Tri.cond rfl (fun h33 => ?_) (fun h33 => ?_)
    ·try (cases h33; done)
     all_goals (try simp only [CQ] at h33)
     all_goals
     refine Tri.skip ?_
     refine Tri.seq ?_
     refine Tri.block ?_
     have hap : (a : Int) < c.people := by omega
     have hba := bit_shut c i hap hhi
     have hfo : ∀ b, (allPr c i c.people.toNat (a + 1)).foldl (exGStep (exG c k) c i loads) b = (rowPr c i a c.people.toNat).foldl (exGStep (exG c k) c i loads) ((allPr c i c.people.toNat a).foldl (exGStep (exG c k) c i loads) b) := fun b => by rw [allPr, List.foldl_append]
     refine sY [0, 1, 2, 3, 5, 6, 7, 10, 11, 31, 32] (fun P S K => K ⟨[(0, S.get 0), (1, S.get 1), (2, S.get 2), (3, S.get 3), (5, S.get 5), (6, S.get 6), (7, S.get 7), (10, S.get 10), (11, (S.get 32)), (31, S.get 31), (32, S.get 32)], S.hp, S.nx, S.gh⟩) ?_
     all_goals
     refine Tri.seq ?_
     refine sZ [0, 1, 2, 3, 5, 6, 7, 10, 11, 31, 32, 42] (fun P S K => XvLoad P 82 (M S.hp S.nx) (S.get 6) (fun r0 _ => XvIndexAddr P 82 r0 (S.get 0) (fun r2 _ => XvLoad P 83 (M S.hp S.nx) r2 (fun r3 _ => XvBinOV P .shr 83 (.tmp 39) r3 (S.get 11) (fun r5 _ => XvBinOV P .and 83 (.const (.int .u64 1)) r5 (.atom (.int .u64 1)) (fun r6 _ => XvBinOV P .eql 83 (.const (.int .u64 0)) r6 (.atom (.int .u64 0)) (fun r7 _ => K ⟨[(0, S.get 0), (1, S.get 1), (2, S.get 2), (3, S.get 3), (5, S.get 5), (6, S.get 6), (7, S.get 7), (10, S.get 10), (11, S.get 11), (31, S.get 31), (32, S.get 32), (42, r7)], S.hp, S.nx, S.gh⟩))))))) fun K hK => ?_
     repeat' (first | (refine hK _ ?_; clear hK K) | ((first | refine xG_intro (fun hg => ?_) (fun hg => ?_) | refine fun (hg : (_ : Prop)) => ?_) <;> ((try simp only [BQ] at hg); try (exfalso; omega))) | refine And.intro ?_ ?_ | exact cl | refine one_take ?_ _ | refine one_drop ?_ _ | (refine st ?_; try simp only [encC, pairs, nats, encP, getD_encN hio, hog, encN, hba]) | simp only [encC, pairs, nats, encP, getD_encN hio, hog, encN, hba])
     all_goals try simp (disch := omega) only [wrap_id, wrap8_id]
     all_goals
     refine Tri.cond rfl (fun h42 => ?_) (fun h42 => ?_)
     ·try (cases h42; done)
      all_goals (try simp only [CQ] at h42)
      all_goals
      refine Tri.exit ?_
      refine rY [0, 1, 2, 3, 5, 6, 7, 10, 31, 32] (fun P S K => XvBinOV P .add 3 (.const (.int .i64 1)) (S.get 32) (.atom (.int .i64 1)) (fun r0 _ => K ⟨[(0, S.get 0), (1, S.get 1), (2, S.get 2), (3, S.get 3), (5, S.get 5), (6, S.get 6), (7, S.get 7), (10, S.get 10), (31, S.get 31), (32, r0)], S.hp, S.nx, S.gh⟩)) ?_
      all_goals try simp (disch := omega) only [wrap_id, wrap8_id]
      all_goals
      first
      | (refine ⟨⟨nw, bs, ls, a + 1, by omega, by rw [hfo, ← hst, rowPr_shut (by simp_all)]; rfl, hnw, hbs, hls0, hls1⟩, [0, 1, 2, 3, 4, 5, 6, 7, 8], by dsimp only; omega, ?_⟩; exact leq9B34)
      | (refine ⟨⟨nw2, bs2, ls2, a + 1, by omega, by rw [hfo, ← hst, show c.people.toNat = b by omega]; exact hst2, hnw2, hbs2, hm0, hm1⟩, [0, 1, 2, 3, 4, 5, 6, 7, 8], by dsimp only; omega, ?_⟩; exact leq9B34)
      | (obtain ⟨rest, e1, e2⟩ := rowPr_split c i a b (c.people.toNat - b)
         rw [show b + (c.people.toNat - b) = c.people.toNat by omega] at e1
         refine ⟨⟨nw2, bs2, ls2, a + 1, by omega, by rw [hfo, ← hst, e1, List.foldl_append, ← hst2, foldl_stuck (by assumption) rest e2], hnw2, hbs2, hm0, hm1⟩, [0, 1, 2, 3, 4, 5, 6, 7, 8], by dsimp only; omega, ?_⟩; exact leq9B34)
     ·try (cases h42; done)
      all_goals (try simp only [CQ] at h42)
      all_goals
      refine Tri.skip ?_
      refine sY [0, 1, 2, 3, 5, 6, 7, 10, 11, 12, 31, 32] (fun P S K => XvBinOV P .add 3 (.const (.int .i64 1)) (S.get 11) (.atom (.int .i64 1)) (fun r1 _ => K ⟨[(0, S.get 0), (1, S.get 1), (2, S.get 2), (3, S.get 3), (5, S.get 5), (6, S.get 6), (7, S.get 7), (10, S.get 10), (11, S.get 11), (12, r1), (31, S.get 31), (32, S.get 32)], S.hp, S.nx, S.gh⟩)) ?_
      all_goals try simp (disch := omega) only [wrap_id, wrap8_id]
      all_goals
      refine Tri.block ?_
      refine Tri.loop (α := (nw2 : List (Int × Int)) ×' (bs2 : List (Int × Int)) ×' (ls2 : Int) ×' (b : Nat) ×' (((a : Int) + 1 ≤ b ∧ (b : Int) ≤ c.people) ∧ (nw2, (bs2, ls2)) = (rowPr c i a b).foldl (exGStep (exG c k) c i loads) (nw, (bs, ls)) ∧ nw2.length = c.sizes.length ∧ bs2.length ≤ c.sizes.length ∧ 0 ≤ ls2 ∧ ls2 ≤ 9223372036854775807)) (fun z => (fun (nw2 : List (Int × Int)) (bs2 : List (Int × Int)) (ls2 : Int) (b : Nat) => (⟨[(0, encI i), (1, .ptr 0 1 0 0), (2, .ptr 1 1 0 0), (3, .ptr 2 1 0 0), (5, .ptr 4 3 0 0), (6, .ptr 5 1 0 0), (7, .ptr 6 1 0 0), (10, encI (li c.sizes i)), (11, encI a), (12, encI b), (31, encI c.people), (32, encI a)], [(0, some ⟨1, [.ob 7 2 0 c.sizes.length]⟩), (1, some ⟨1, [.ob 8 1 0 c.people.toNat]⟩), (2, some ⟨1, [encI ls2]⟩), (3, some ⟨1, [pairs bs2]⟩), (4, some ⟨3, [encC c]⟩), (5, some ⟨1, [nats (opens c)]⟩), (6, some ⟨1, [.fn 71 [.ptr 0 1 0 0, .ptr 1 1 0 0, .ptr 2 1 0 0, .ptr 3 1 0 0, .ptr 4 3 0 0, .ptr 5 1 0 0, .ptr 6 1 0 0]]⟩), (7, some ⟨2, nw2.map encP⟩), (8, some ⟨1, loads.map encI⟩)], 9, [.ob 0 1 0 0, .ob 1 1 0 0, .ob 2 1 0 0, .ob 3 1 0 0, .ob 4 3 0 0, .ob 5 1 0 0, .ob 6 1 0 0, .ob 7 2 0 0, .ob 8 1 0 0]⟩ : St)) z.1 z.2.1 z.2.2.1 z.2.2.2.1) (fun z => (fun (nw2 : List (Int × Int)) (bs2 : List (Int × Int)) (ls2 : Int) (b : Nat) => 6 - b) z.1 z.2.1 z.2.2.1 z.2.2.2.1) ⟨nw, bs, ls, a + 1, ⟨⟨by omega, by omega⟩, by rw [rowPr_low c i a _ (Nat.le_refl _)]; rfl, hnw, hbs, hls0, hls1⟩⟩ [0, 1, 2, 3, 4, 5, 6, 7, 8] ?_ ?_
      ·exact leq9B34
      ·rintro ⟨nw2, bs2, ls2, b, ⟨⟨hb1, hb2⟩, hst2, hnw2, hbs2, hm0, hm1⟩⟩
       refine Tri.seq ?_
       refine sZ [0, 1, 2, 3, 5, 6, 7, 10, 11, 12, 31, 32, 48] (fun P S K => XvFieldAddr P 38 1 (S.get 5) (fun r1 _ => XvLoad P 3 (M S.hp S.nx) r1 (fun r2 _ => XvBinOV P .lss 3 (.tmp 47) (S.get 12) r2 (fun r3 _ => K ⟨[(0, S.get 0), (1, S.get 1), (2, S.get 2), (3, S.get 3), (5, S.get 5), (6, S.get 6), (7, S.get 7), (10, S.get 10), (11, S.get 11), (12, S.get 12), (31, S.get 31), (32, S.get 32), (48, r3)], S.hp, S.nx, S.gh⟩)))) fun K hK => ?_
       repeat' (first | (refine hK _ ?_; clear hK K) | refine And.intro ?_ ?_ | exact cl | (refine st ?_; try simp only [encC, pairs, nats, encP]) | simp only [encC, pairs, nats, encP])
       all_goals
       refine Tri.cond rfl (fun h48 => ?_) (fun h48 => ?_)
       ·try (cases h48; done)
        all_goals (try simp only [CQ] at h48)
        all_goals
        refine Tri.skip ?_
        refine Tri.seq ?_
        refine Tri.block ?_
        refine Tri.seq ?_
        refine Tri.block ?_
        have hbp : (b : Int) < c.people := by omega
        have hbb := bit_shut c i hbp hhi
        have hr1 : rowPr c i a (b + 1) = rowPr c i a b ++ if a < b ∧ openB c i a = true ∧ openB c i b = true then [((a : Int), (b : Int))] else [] := rfl
        refine sZ [0, 1, 2, 3, 5, 6, 7, 10, 11, 12, 31, 32, 51] (fun P S K => XvLoad P 82 (M S.hp S.nx) (S.get 6) (fun r0 _ => XvIndexAddr P 82 r0 (S.get 0) (fun r2 _ => XvLoad P 83 (M S.hp S.nx) r2 (fun r3 _ => XvBinOV P .shr 83 (.tmp 56) r3 (S.get 12) (fun r5 _ => XvBinOV P .and 83 (.const (.int .u64 1)) r5 (.atom (.int .u64 1)) (fun r6 _ => XvBinOV P .eql 83 (.const (.int .u64 0)) r6 (.atom (.int .u64 0)) (fun r7 _ => K ⟨[(0, S.get 0), (1, S.get 1), (2, S.get 2), (3, S.get 3), (5, S.get 5), (6, S.get 6), (7, S.get 7), (10, S.get 10), (11, S.get 11), (12, S.get 12), (31, S.get 31), (32, S.get 32), (51, r7)], S.hp, S.nx, S.gh⟩))))))) fun K hK => ?_
        repeat' (first | (refine hK _ ?_; clear hK K) | ((first | refine xG_intro (fun hg => ?_) (fun hg => ?_) | refine fun (hg : (_ : Prop)) => ?_) <;> ((try simp only [BQ] at hg); try (exfalso; omega))) | refine And.intro ?_ ?_ | exact cl | refine one_take ?_ _ | refine one_drop ?_ _ | (refine st ?_; try simp only [encC, pairs, nats, encP, getD_encN hio, hog, encN, hbb]) | simp only [encC, pairs, nats, encP, getD_encN hio, hog, encN, hbb])
        all_goals try simp (disch := omega) only [wrap_id, wrap8_id]
        all_goals
        refine Tri.cond rfl (fun h51 => ?_) (fun h51 => ?_)
        ·try (cases h51; done)
         all_goals (try simp only [CQ] at h51)
         all_goals
         refine Tri.exit ?_
         refine rY [0, 1, 2, 3, 5, 6, 7, 10, 11, 12, 31, 32] (fun P S K => XvBinOV P .add 3 (.const (.int .i64 1)) (S.get 12) (.atom (.int .i64 1)) (fun r1 _ => K ⟨[(0, S.get 0), (1, S.get 1), (2, S.get 2), (3, S.get 3), (5, S.get 5), (6, S.get 6), (7, S.get 7), (10, S.get 10), (11, S.get 11), (12, r1), (31, S.get 31), (32, S.get 32)], S.hp, S.nx, S.gh⟩)) ?_
         all_goals try simp (disch := omega) only [wrap_id, wrap8_id]
         all_goals
         first
         | (refine ⟨⟨(exG c k (nw2.set i ((a : Int), (b : Int))) (loadStep c loads i ((a : Int), (b : Int))) (bs2, ls2)).1, (exG c k (nw2.set i ((a : Int), (b : Int))) (loadStep c loads i ((a : Int), (b : Int))) (bs2, ls2)).2.1, (exG c k (nw2.set i ((a : Int), (b : Int))) (loadStep c loads i ((a : Int), (b : Int))) (bs2, ls2)).2.2, b + 1, ⟨by omega, by omega⟩, by rw [hstep], hRb.1, hRb.2.1, hRb.2.2.1, by omega⟩, [0, 1, 2, 3, 4, 5, 6, 7, 8], by dsimp only; omega, ?_⟩; exact leq9B34)
         | (refine ⟨⟨nw2, bs2, ls2, b + 1, ⟨by omega, by omega⟩, by rw [hr1, if_pos ⟨by omega, by assumption, by assumption⟩, List.foldl_append, ← hst2]; exact (if_pos (.inr (by assumption))).symm, hnw2, hbs2, hm0, hm1⟩, [0, 1, 2, 3, 4, 5, 6, 7, 8], by dsimp only; omega, ?_⟩; exact leq9B34)
         | (refine ⟨⟨nw2, bs2, ls2, b + 1, ⟨by omega, by omega⟩, by rw [hr1, if_neg (by rintro ⟨_, _, g⟩; simp_all), List.append_nil]; exact hst2, hnw2, hbs2, hm0, hm1⟩, [0, 1, 2, 3, 4, 5, 6, 7, 8], by dsimp only; omega, ?_⟩; exact leq9B34)
        ·try (cases h51; done)
         all_goals (try simp only [CQ] at h51)
         all_goals
         refine sD 9 [0, 1, 2, 3, 5, 6, 7, 10, 11, 12, 31, 32, 60] (fun P GD S K => XvLoad P 22 (M S.hp S.nx) (S.get 2) (fun r0 ef0 => XvIndexAddr P 22 r0 (S.get 11) (fun r2 ef2 => XvLoad P 3 (M S.hp S.nx) r2 (fun r3 ef3 => XvBinOV P .add 3 (.tmp 65) r3 (S.get 10) (fun r5 ef5 => XvLoad P 3 (M S.hp S.nx) (S.get 3) (fun r6 ef6 => XvBinOV P .geq 3 (.tmp 67) r5 r6 (fun r7 ef7 => (trOk S.nx GD [⟨S.nx, 0, ef0.rd, [], []⟩, ⟨S.nx, 0, [], [], []⟩, ⟨S.nx, 0, ef2.rd, [], []⟩, ⟨S.nx, 0, ef3.rd, [], []⟩, ⟨S.nx, 0, [], [], []⟩, ⟨S.nx, 0, ef5.rd, [], []⟩, ⟨S.nx, 0, ef6.rd, [], []⟩, ⟨S.nx, 0, ef7.rd, [], []⟩, ⟨S.nx, 0, [], [], []⟩] = true ∧ K ⟨[(0, S.get 0), (1, S.get 1), (2, S.get 2), (3, S.get 3), (5, S.get 5), (6, S.get 6), (7, S.get 7), (10, S.get 10), (11, S.get 11), (12, S.get 12), (31, S.get 31), (32, S.get 32), (60, r7)], S.hp, S.nx, S.gh⟩)))))))) fun K hK => ?_
         repeat' (first | (refine hK _ ?_; clear hK K) | (refine (?_ : trOk _ _ _ = true); kernel_rfl) | refine And.intro ?_ ?_ | exact cl | (refine st ?_; try simp only [encC, pairs, nats, encP, getD_encI (show a < loads.length by omega), wrap_id (x := li loads a + li c.sizes i) (by have := hra a; omega) (by have := hra a; omega), hll]) | simp only [encC, pairs, nats, encP, getD_encI (show a < loads.length by omega), wrap_id (x := li loads a + li c.sizes i) (by have := hra a; omega) (by have := hra a; omega), hll])
         all_goals try simp (disch := omega) only [wrap_id, wrap8_id]
         all_goals
         refine Tri.cond rfl (fun h60 => ?_) (fun h60 => ?_)
         ·try (cases h60; done)
          all_goals (try simp only [CQ] at h60)
          all_goals
          refine Tri.exit ?_
          refine rY [0, 1, 2, 3, 5, 6, 7, 10, 31, 32] (fun P S K => XvBinOV P .add 3 (.const (.int .i64 1)) (S.get 32) (.atom (.int .i64 1)) (fun r0 _ => K ⟨[(0, S.get 0), (1, S.get 1), (2, S.get 2), (3, S.get 3), (5, S.get 5), (6, S.get 6), (7, S.get 7), (10, S.get 10), (31, S.get 31), (32, r0)], S.hp, S.nx, S.gh⟩)) ?_
          all_goals try simp (disch := omega) only [wrap_id, wrap8_id]
          all_goals
          first
          | (refine ⟨⟨nw, bs, ls, a + 1, by omega, by rw [hfo, ← hst, rowPr_shut (by simp_all)]; rfl, hnw, hbs, hls0, hls1⟩, [0, 1, 2, 3, 4, 5, 6, 7, 8], by dsimp only; omega, ?_⟩; exact leq9B34)
          | (refine ⟨⟨nw2, bs2, ls2, a + 1, by omega, by rw [hfo, ← hst, show c.people.toNat = b by omega]; exact hst2, hnw2, hbs2, hm0, hm1⟩, [0, 1, 2, 3, 4, 5, 6, 7, 8], by dsimp only; omega, ?_⟩; exact leq9B34)
          | (obtain ⟨rest, e1, e2⟩ := rowPr_split c i a b (c.people.toNat - b)
             rw [show b + (c.people.toNat - b) = c.people.toNat by omega] at e1
             refine ⟨⟨nw2, bs2, ls2, a + 1, by omega, by rw [hfo, ← hst, e1, List.foldl_append, ← hst2, foldl_stuck (by assumption) rest e2], hnw2, hbs2, hm0, hm1⟩, [0, 1, 2, 3, 4, 5, 6, 7, 8], by dsimp only; omega, ?_⟩; exact leq9B34)
         ·try (cases h60; done)
          all_goals (try simp only [CQ] at h60)
          all_goals
          refine sD 9 [0, 1, 2, 3, 5, 6, 7, 10, 11, 12, 31, 32, 69] (fun P GD S K => XvLoad P 22 (M S.hp S.nx) (S.get 2) (fun r0 ef0 => XvIndexAddr P 22 r0 (S.get 12) (fun r2 ef2 => XvLoad P 3 (M S.hp S.nx) r2 (fun r3 ef3 => XvBinOV P .add 3 (.tmp 74) r3 (S.get 10) (fun r5 ef5 => XvLoad P 3 (M S.hp S.nx) (S.get 3) (fun r6 ef6 => XvBinOV P .geq 3 (.tmp 76) r5 r6 (fun r7 ef7 => (trOk S.nx GD [⟨S.nx, 0, ef0.rd, [], []⟩, ⟨S.nx, 0, [], [], []⟩, ⟨S.nx, 0, ef2.rd, [], []⟩, ⟨S.nx, 0, ef3.rd, [], []⟩, ⟨S.nx, 0, [], [], []⟩, ⟨S.nx, 0, ef5.rd, [], []⟩, ⟨S.nx, 0, ef6.rd, [], []⟩, ⟨S.nx, 0, ef7.rd, [], []⟩, ⟨S.nx, 0, [], [], []⟩] = true ∧ K ⟨[(0, S.get 0), (1, S.get 1), (2, S.get 2), (3, S.get 3), (5, S.get 5), (6, S.get 6), (7, S.get 7), (10, S.get 10), (11, S.get 11), (12, S.get 12), (31, S.get 31), (32, S.get 32), (69, r7)], S.hp, S.nx, S.gh⟩)))))))) fun K hK => ?_
          repeat' (first | (refine hK _ ?_; clear hK K) | (refine (?_ : trOk _ _ _ = true); kernel_rfl) | refine And.intro ?_ ?_ | exact cl | (refine st ?_; try simp only [encC, pairs, nats, encP, getD_encI (show b < loads.length by omega), wrap_id (x := li loads b + li c.sizes i) (by have := hra b; omega) (by have := hra b; omega), hll]) | simp only [encC, pairs, nats, encP, getD_encI (show b < loads.length by omega), wrap_id (x := li loads b + li c.sizes i) (by have := hra b; omega) (by have := hra b; omega), hll])
          all_goals try simp (disch := omega) only [wrap_id, wrap8_id]
          all_goals
          refine Tri.cond rfl (fun h69 => ?_) (fun h69 => ?_)
          ·try (cases h69; done)
           all_goals (try simp only [CQ] at h69)
           all_goals
           refine Tri.exit ?_
           refine rY [0, 1, 2, 3, 5, 6, 7, 10, 11, 12, 31, 32] (fun P S K => XvBinOV P .add 3 (.const (.int .i64 1)) (S.get 12) (.atom (.int .i64 1)) (fun r1 _ => K ⟨[(0, S.get 0), (1, S.get 1), (2, S.get 2), (3, S.get 3), (5, S.get 5), (6, S.get 6), (7, S.get 7), (10, S.get 10), (11, S.get 11), (12, r1), (31, S.get 31), (32, S.get 32)], S.hp, S.nx, S.gh⟩)) ?_
           all_goals try simp (disch := omega) only [wrap_id, wrap8_id]
           all_goals
           first
           | (refine ⟨⟨(exG c k (nw2.set i ((a : Int), (b : Int))) (loadStep c loads i ((a : Int), (b : Int))) (bs2, ls2)).1, (exG c k (nw2.set i ((a : Int), (b : Int))) (loadStep c loads i ((a : Int), (b : Int))) (bs2, ls2)).2.1, (exG c k (nw2.set i ((a : Int), (b : Int))) (loadStep c loads i ((a : Int), (b : Int))) (bs2, ls2)).2.2, b + 1, ⟨by omega, by omega⟩, by rw [hstep], hRb.1, hRb.2.1, hRb.2.2.1, by omega⟩, [0, 1, 2, 3, 4, 5, 6, 7, 8], by dsimp only; omega, ?_⟩; exact leq9B34)
           | (refine ⟨⟨nw2, bs2, ls2, b + 1, ⟨by omega, by omega⟩, by rw [hr1, if_pos ⟨by omega, by assumption, by assumption⟩, List.foldl_append, ← hst2]; exact (if_pos (.inr (by assumption))).symm, hnw2, hbs2, hm0, hm1⟩, [0, 1, 2, 3, 4, 5, 6, 7, 8], by dsimp only; omega, ?_⟩; exact leq9B34)
           | (refine ⟨⟨nw2, bs2, ls2, b + 1, ⟨by omega, by omega⟩, by rw [hr1, if_neg (by rintro ⟨_, _, g⟩; simp_all), List.append_nil]; exact hst2, hnw2, hbs2, hm0, hm1⟩, [0, 1, 2, 3, 4, 5, 6, 7, 8], by dsimp only; omega, ?_⟩; exact leq9B34)
          ·try (cases h69; done)
           all_goals (try simp only [CQ] at h69)
           all_goals
           refine Tri.skip ?_
           have hX := hl.step hG.pos i ((a : Int), (b : Int))
           have hXl := hX.len
           have hXr : ∀ x, x ∈ (loadStep c loads i ((a : Int), (b : Int))) → 0 ≤ x ∧ x ≤ 2048 * ((i + 1 : Nat) : Int) := fun x hx => by have := addAt_rng (m := 2048 * (i : Int) + 1024) (M := 2048 * (i : Int) + 2048) (addAt_rng (m := 2048 * (i : Int)) (M := 2048 * (i : Int) + 1024) hr (by omega) (by omega)) (by omega) (by omega) x hx; omega
           have hokx : ExOk c (i + 1) (nw2.set i ((a : Int), (b : Int))) (loadStep c loads i ((a : Int), (b : Int))) bs2 ls2 := ⟨by simpa using hnw2, hX, hXr, hbs2, hm0, hm1⟩
           have hRb := exG_bound hG.pos (k := k) (now := (nw2.set i ((a : Int), (b : Int)))) (loads := (loadStep c loads i ((a : Int), (b : Int)))) (best := bs2) (least := ls2) (by omega) (by simpa using hnw2) hbs2 hm0
           have hih := ih _ _ _ _ hokx
           have hstep : (rowPr c i a (b + 1)).foldl (exGStep (exG c k) c i loads) (nw, (bs, ls)) = (exG c k (nw2.set i ((a : Int), (b : Int))) (loadStep c loads i ((a : Int), (b : Int))) (bs2, ls2)) := by
             rw [hr1, if_pos ⟨by omega, by assumption, by assumption⟩, List.foldl_append, ← hst2]
             exact if_neg (by rintro (g | g); exact absurd g (by assumption); exact absurd g (by assumption))
           refine sZ [0, 1, 2, 3, 5, 6, 7, 10, 11, 12, 31, 32] (fun P S K => XvLoad P 23 (M S.hp S.nx) (S.get 1) (fun r0 _ => XvBuild P 67 [(0, (S.get 11)), (1, (S.get 12))] (fun r4 _ => XvIndexAddr P 23 r0 (S.get 0) (fun r5 _ => XvStore P 67 (M S.hp S.nx) r5 r4 (fun r6 ef6 => K ⟨[(0, S.get 0), (1, S.get 1), (2, S.get 2), (3, S.get 3), (5, S.get 5), (6, S.get 6), (7, S.get 7), (10, S.get 10), (11, S.get 11), (12, S.get 12), (31, S.get 31), (32, S.get 32)], (Eff.hp ef6 S.nx S.hp), (S.nx + ef6.add.length), S.gh⟩))))) fun K hK => ?_
           repeat' (first | (refine hK _ ?_; clear hK K) | refine And.intro ?_ ?_ | exact cl | (refine st ?_; try simp only [encC, pairs, nats, encP, getD_encP (show i < nw2.length by omega), encP, hnw2]) | simp only [encC, pairs, nats, encP, getD_encP (show i < nw2.length by omega), encP, hnw2])
           rw [set_encP]
           all_goals
           refine sZ [0, 1, 2, 3, 5, 6, 7, 10, 11, 12, 31, 32] (fun P S K => XvLoad P 22 (M S.hp S.nx) (S.get 2) (fun r0 _ => XvIndexAddr P 22 r0 (S.get 11) (fun r2 _ => XvLoad P 3 (M S.hp S.nx) r2 (fun r3 _ => XvBinOV P .add 3 (.tmp 88) r3 (S.get 10) (fun r5 _ => XvIndexAddr P 22 r0 (S.get 11) (fun r6 _ => XvStore P 3 (M S.hp S.nx) r6 r5 (fun r7 ef7 => K ⟨[(0, S.get 0), (1, S.get 1), (2, S.get 2), (3, S.get 3), (5, S.get 5), (6, S.get 6), (7, S.get 7), (10, S.get 10), (11, S.get 11), (12, S.get 12), (31, S.get 31), (32, S.get 32)], (Eff.hp ef7 S.nx S.hp), (S.nx + ef7.add.length), S.gh⟩))))))) fun K hK => ?_
           repeat' (first | (refine hK _ ?_; clear hK K) | refine And.intro ?_ ?_ | exact cl | (refine st ?_; try simp only [encC, pairs, nats, encP, getD_encI (show a < loads.length by omega), wrap_id (x := li loads a + li c.sizes i) (by have := hra a; omega) (by have := hra a; omega), hll]) | simp only [encC, pairs, nats, encP, getD_encI (show a < loads.length by omega), wrap_id (x := li loads a + li c.sizes i) (by have := hra a; omega) (by have := hra a; omega), hll])
           all_goals try simp (disch := omega) only [wrap_id, wrap8_id]
           rw [addN_enc]
           have hl1' : (addAt loads a (li c.sizes i)).length = c.people.toNat := by rw [addAt_len, hll]
           have hrb := li_rng (addAt_rng (k := (a : Int)) (v := li c.sizes i) (m := 2048 * (i : Int)) (M := 2048 * (i : Int) + 1024) hr (by omega) (by omega)) (by omega)
           all_goals
           refine Tri.cut (α := Unit) (fun ⟨⟩ => ⟨[(0, encI i), (1, .ptr 0 1 0 0), (2, .ptr 1 1 0 0), (3, .ptr 2 1 0 0), (5, .ptr 4 3 0 0), (6, .ptr 5 1 0 0), (7, .ptr 6 1 0 0), (10, encI (li c.sizes i)), (11, encI a), (12, encI b), (31, encI c.people), (32, encI a)], [(0, some ⟨1, [.ob 7 2 0 c.sizes.length]⟩), (1, some ⟨1, [.ob 8 1 0 c.people.toNat]⟩), (2, some ⟨1, [encI ls2]⟩), (3, some ⟨1, [pairs bs2]⟩), (4, some ⟨3, [encC c]⟩), (5, some ⟨1, [nats (opens c)]⟩), (6, some ⟨1, [.fn 71 [.ptr 0 1 0 0, .ptr 1 1 0 0, .ptr 2 1 0 0, .ptr 3 1 0 0, .ptr 4 3 0 0, .ptr 5 1 0 0, .ptr 6 1 0 0]]⟩), (7, some ⟨2, (nw2.set i ((a : Int), (b : Int))).map encP⟩), (8, some ⟨1, (loadStep c loads i ((a : Int), (b : Int))).map encI⟩)], 9, [.ob 0 1 0 0, .ob 1 1 0 0, .ob 2 1 0 0, .ob 3 1 0 0, .ob 4 3 0 0, .ob 5 1 0 0, .ob 6 1 0 0, .ob 7 2 0 0, .ob 8 1 0 0]⟩) ?_ ?_
           ·skip
            refine rZ [0, 1, 2, 3, 5, 6, 7, 10, 11, 12, 31, 32] (fun P S K => XvLoad P 22 (M S.hp S.nx) (S.get 2) (fun r0 _ => XvIndexAddr P 22 r0 (S.get 12) (fun r2 _ => XvLoad P 3 (M S.hp S.nx) r2 (fun r3 _ => XvBinOV P .add 3 (.tmp 95) r3 (S.get 10) (fun r5 _ => XvIndexAddr P 22 r0 (S.get 12) (fun r6 _ => XvStore P 3 (M S.hp S.nx) r6 r5 (fun r7 ef7 => K ⟨[(0, S.get 0), (1, S.get 1), (2, S.get 2), (3, S.get 3), (5, S.get 5), (6, S.get 6), (7, S.get 7), (10, S.get 10), (11, S.get 11), (12, S.get 12), (31, S.get 31), (32, S.get 32)], (Eff.hp ef7 S.nx S.hp), (S.nx + ef7.add.length), S.gh⟩))))))) fun K hK => ?_
            repeat' (first | (refine hK _ ?_; clear hK K) | refine And.intro ?_ ?_ | exact cl | (refine st ?_; try simp only [encC, pairs, nats, encP, getD_encI (show b < (addAt loads a (li c.sizes i)).length by omega), wrap_id (x := li (addAt loads a (li c.sizes i)) b + li c.sizes i) (by have := hrb b; omega) (by have := hrb b; omega), hl1']) | simp only [encC, pairs, nats, encP, getD_encI (show b < (addAt loads a (li c.sizes i)).length by omega), wrap_id (x := li (addAt loads a (li c.sizes i)) b + li c.sizes i) (by have := hrb b; omega) (by have := hrb b; omega), hl1'])
            all_goals try simp (disch := omega) only [wrap_id, wrap8_id]
            rw [addN_enc, show addAt (addAt loads a (li c.sizes i)) b (li c.sizes i) = (loadStep c loads i ((a : Int), (b : Int))) from rfl]
            all_goals
            refine ⟨(), [0, 1, 2, 3, 4, 5, 6, 7, 8], ?_⟩
            exact leq9B34
           ·rintro ⟨⟩
            refine Tri.cut (α := Unit) (fun ⟨⟩ => ⟨[(0, encI i), (1, .ptr 0 1 0 0), (2, .ptr 1 1 0 0), (3, .ptr 2 1 0 0), (5, .ptr 4 3 0 0), (6, .ptr 5 1 0 0), (7, .ptr 6 1 0 0), (10, encI (li c.sizes i)), (11, encI a), (12, encI b), (31, encI c.people), (32, encI a)], [(0, some ⟨1, [.ob 7 2 0 c.sizes.length]⟩), (1, some ⟨1, [.ob 8 1 0 c.people.toNat]⟩), (2, some ⟨1, [encI (exG c k (nw2.set i ((a : Int), (b : Int))) (loadStep c loads i ((a : Int), (b : Int))) (bs2, ls2)).2.2]⟩), (3, some ⟨1, [pairs (exG c k (nw2.set i ((a : Int), (b : Int))) (loadStep c loads i ((a : Int), (b : Int))) (bs2, ls2)).2.1]⟩), (4, some ⟨3, [encC c]⟩), (5, some ⟨1, [nats (opens c)]⟩), (6, some ⟨1, [.fn 71 [.ptr 0 1 0 0, .ptr 1 1 0 0, .ptr 2 1 0 0, .ptr 3 1 0 0, .ptr 4 3 0 0, .ptr 5 1 0 0, .ptr 6 1 0 0]]⟩), (7, some ⟨2, (exG c k (nw2.set i ((a : Int), (b : Int))) (loadStep c loads i ((a : Int), (b : Int))) (bs2, ls2)).1.map encP⟩), (8, some ⟨1, (loadStep c loads i ((a : Int), (b : Int))).map encI⟩)], 9, [.ob 0 1 0 0, .ob 1 1 0 0, .ob 2 1 0 0, .ob 3 1 0 0, .ob 4 3 0 0, .ob 5 1 0 0, .ob 6 1 0 0, .ob 7 2 0 0, .ob 8 1 0 0]⟩) ?_ ?_
            ·skip
             refine rZ [0, 1, 2, 3, 5, 6, 7, 10, 11, 12, 31, 32] (fun P S K => XvLoad P 106 (M S.hp S.nx) (S.get 7) (fun r0 _ => XvBinOV P .add 3 (.const (.int .i64 1)) (S.get 0) (.atom (.int .i64 1)) (fun r2 _ => XvFnIV P (M S.hp S.nx) r0 [r2] (fun r3 ef3 => K ⟨[(0, S.get 0), (1, S.get 1), (2, S.get 2), (3, S.get 3), (5, S.get 5), (6, S.get 6), (7, S.get 7), (10, S.get 10), (11, S.get 11), (12, S.get 12), (31, S.get 31), (32, S.get 32)], (Eff.hp ef3 S.nx S.hp), (S.nx + ef3.add.length), S.gh⟩)))) fun K hK => ?_
             repeat' (first | (refine hK _ ?_; clear hK K) | refine And.intro ?_ ?_ | exact cl | refine .inr (vProc.wholeS [0, 1, 2, 3, 4, 5, 6, 7, 8] [(0, ⟨1, [.ob 7 2 0 c.sizes.length]⟩), (1, ⟨1, [.ob 8 1 0 c.people.toNat]⟩), (2, ⟨1, [encI (exG c k (nw2.set i ((a : Int), (b : Int))) (loadStep c loads i ((a : Int), (b : Int))) (bs2, ls2)).2.2]⟩), (3, ⟨1, [pairs (exG c k (nw2.set i ((a : Int), (b : Int))) (loadStep c loads i ((a : Int), (b : Int))) (bs2, ls2)).2.1]⟩), (4, ⟨3, [encC c]⟩), (5, ⟨1, [nats (opens c)]⟩), (6, ⟨1, [.fn 71 [.ptr 0 1 0 0, .ptr 1 1 0 0, .ptr 2 1 0 0, .ptr 3 1 0 0, .ptr 4 3 0 0, .ptr 5 1 0 0, .ptr 6 1 0 0]]⟩), (7, ⟨2, (exG c k (nw2.set i ((a : Int), (b : Int))) (loadStep c loads i ((a : Int), (b : Int))) (bs2, ls2)).1.map encP⟩), (8, ⟨1, (loadStep c loads i ((a : Int), (b : Int))).map encI⟩)] hih (by decide) rfl (by simp [-List.map_map, -List.map_set, sealed, PV.ren, renL, rmap, pmap, procSet, procDel, AO.ren, encC, pairs, nats, ints, encI, renL_encP, renL_encI, renL_encN, map_ren_encP, map_ren_encI, map_ren_encN, St.obj, lk]) ho9 rfl (by simp [-List.map_map, -List.map_set, sealed, PV.ren, renL, rmap, pmap, procSet, procDel, AO.ren, encC, pairs, nats, ints, encI, renL_encP, renL_encI, renL_encN, map_ren_encP, map_ren_encI, map_ren_encN, St.obj, lk]) rfl ?_) | (refine st ?_; try simp only [encC, pairs, nats, encP, wrap_id (x := (i : Int) + 1) (by omega) (by omega)]) | simp only [encC, pairs, nats, encP, wrap_id (x := (i : Int) + 1) (by omega) (by omega)])
             all_goals try simp (disch := omega) only [wrap_id, wrap8_id]
             all_goals
             refine ⟨(), [0, 1, 2, 3, 4, 5, 6, 7, 8], ?_⟩
             exact leq9B34
            ·rintro ⟨⟩
             have hrx := li_rng hXr (by omega)
             refine sZ [0, 1, 2, 3, 5, 6, 7, 10, 11, 12, 31, 32] (fun P S K => XvLoad P 22 (M S.hp S.nx) (S.get 2) (fun r0 _ => XvIndexAddr P 22 r0 (S.get 11) (fun r2 _ => XvLoad P 3 (M S.hp S.nx) r2 (fun r3 _ => XvBinOV P .sub 3 (.tmp 106) r3 (S.get 10) (fun r5 _ => XvIndexAddr P 22 r0 (S.get 11) (fun r6 _ => XvStore P 3 (M S.hp S.nx) r6 r5 (fun r7 ef7 => K ⟨[(0, S.get 0), (1, S.get 1), (2, S.get 2), (3, S.get 3), (5, S.get 5), (6, S.get 6), (7, S.get 7), (10, S.get 10), (11, S.get 11), (12, S.get 12), (31, S.get 31), (32, S.get 32)], (Eff.hp ef7 S.nx S.hp), (S.nx + ef7.add.length), S.gh⟩))))))) fun K hK => ?_
             repeat' (first | (refine hK _ ?_; clear hK K) | refine And.intro ?_ ?_ | exact cl | (refine st ?_; try simp only [encC, pairs, nats, encP, getD_encI (show a < (loadStep c loads i ((a : Int), (b : Int))).length by omega), wrap_id (x := li (loadStep c loads i ((a : Int), (b : Int))) a - li c.sizes i) (by have := hrx a; omega) (by have := hrx a; omega), hXl]) | simp only [encC, pairs, nats, encP, getD_encI (show a < (loadStep c loads i ((a : Int), (b : Int))).length by omega), wrap_id (x := li (loadStep c loads i ((a : Int), (b : Int))) a - li c.sizes i) (by have := hrx a; omega) (by have := hrx a; omega), hXl])
             all_goals try simp (disch := omega) only [wrap_id, wrap8_id]
             rw [subN_enc]
             have hl2' : (addAt (loadStep c loads i ((a : Int), (b : Int))) a (-(li c.sizes i))).length = c.people.toNat := by rw [addAt_len, hXl]
             have hry : ∀ j, -1024 ≤ li (addAt (loadStep c loads i ((a : Int), (b : Int))) a (-(li c.sizes i))) j ∧ li (addAt (loadStep c loads i ((a : Int), (b : Int))) a (-(li c.sizes i))) j ≤ 2048 * ((i + 1 : Nat) : Int) := fun j => by
               by_cases hj : j < (loadStep c loads i ((a : Int), (b : Int))).length
               · rw [li_addAt _ _ _ hj]; have := hrx j; split <;> omega
               · have : li (addAt (loadStep c loads i ((a : Int), (b : Int))) a (-(li c.sizes i))) j = 0 := by unfold li; simp [List.getD_eq_getElem?_getD, addAt_len, hj]
                 omega
             all_goals
             refine rZ [0, 1, 2, 3, 5, 6, 7, 10, 11, 12, 31, 32] (fun P S K => XvLoad P 22 (M S.hp S.nx) (S.get 2) (fun r0 _ => XvIndexAddr P 22 r0 (S.get 12) (fun r2 _ => XvLoad P 3 (M S.hp S.nx) r2 (fun r3 _ => XvBinOV P .sub 3 (.tmp 113) r3 (S.get 10) (fun r5 _ => XvIndexAddr P 22 r0 (S.get 12) (fun r6 _ => XvStore P 3 (M S.hp S.nx) r6 r5 (fun r7 ef7 => K ⟨[(0, S.get 0), (1, S.get 1), (2, S.get 2), (3, S.get 3), (5, S.get 5), (6, S.get 6), (7, S.get 7), (10, S.get 10), (11, S.get 11), (12, S.get 12), (31, S.get 31), (32, S.get 32)], (Eff.hp ef7 S.nx S.hp), (S.nx + ef7.add.length), S.gh⟩))))))) fun K hK => ?_
             repeat' (first | (refine hK _ ?_; clear hK K) | refine And.intro ?_ ?_ | exact cl | (refine st ?_; try simp only [encC, pairs, nats, encP, getD_encI (show b < (addAt (loadStep c loads i ((a : Int), (b : Int))) a (-(li c.sizes i))).length by omega), wrap_id (x := li (addAt (loadStep c loads i ((a : Int), (b : Int))) a (-(li c.sizes i))) b - li c.sizes i) (by have := hry b; omega) (by have := hry b; omega), hl2']) | simp only [encC, pairs, nats, encP, getD_encI (show b < (addAt (loadStep c loads i ((a : Int), (b : Int))) a (-(li c.sizes i))).length by omega), wrap_id (x := li (addAt (loadStep c loads i ((a : Int), (b : Int))) a (-(li c.sizes i))) b - li c.sizes i) (by have := hry b; omega) (by have := hry b; omega), hl2'])
             all_goals try simp (disch := omega) only [wrap_id, wrap8_id]
             rw [subN_enc, load_back (p := ((a : Int), (b : Int))) ⟨by simp only; omega, by simp only; omega, by simp only; omega⟩]
             all_goals
             refine rY [0, 1, 2, 3, 5, 6, 7, 10, 11, 12, 31, 32] (fun P S K => XvBinOV P .add 3 (.const (.int .i64 1)) (S.get 12) (.atom (.int .i64 1)) (fun r1 _ => K ⟨[(0, S.get 0), (1, S.get 1), (2, S.get 2), (3, S.get 3), (5, S.get 5), (6, S.get 6), (7, S.get 7), (10, S.get 10), (11, S.get 11), (12, r1), (31, S.get 31), (32, S.get 32)], S.hp, S.nx, S.gh⟩)) ?_
             all_goals try simp (disch := omega) only [wrap_id, wrap8_id]
             all_goals
             first
             | (refine ⟨⟨(exG c k (nw2.set i ((a : Int), (b : Int))) (loadStep c loads i ((a : Int), (b : Int))) (bs2, ls2)).1, (exG c k (nw2.set i ((a : Int), (b : Int))) (loadStep c loads i ((a : Int), (b : Int))) (bs2, ls2)).2.1, (exG c k (nw2.set i ((a : Int), (b : Int))) (loadStep c loads i ((a : Int), (b : Int))) (bs2, ls2)).2.2, b + 1, ⟨by omega, by omega⟩, by rw [hstep], hRb.1, hRb.2.1, hRb.2.2.1, by omega⟩, [0, 1, 2, 3, 4, 5, 6, 7, 8], by dsimp only; omega, ?_⟩; exact leq9B34)
             | (refine ⟨⟨nw2, bs2, ls2, b + 1, ⟨by omega, by omega⟩, by rw [hr1, if_pos ⟨by omega, by assumption, by assumption⟩, List.foldl_append, ← hst2]; exact (if_pos (.inr (by assumption))).symm, hnw2, hbs2, hm0, hm1⟩, [0, 1, 2, 3, 4, 5, 6, 7, 8], by dsimp only; omega, ?_⟩; exact leq9B34)
             | (refine ⟨⟨nw2, bs2, ls2, b + 1, ⟨by omega, by omega⟩, by rw [hr1, if_neg (by rintro ⟨_, _, g⟩; simp_all), List.append_nil]; exact hst2, hnw2, hbs2, hm0, hm1⟩, [0, 1, 2, 3, 4, 5, 6, 7, 8], by dsimp only; omega, ?_⟩; exact leq9B34)
       ·try (cases h48; done)
        all_goals (try simp only [CQ] at h48)
        all_goals
        refine Tri.exit ?_
        refine rY [0, 1, 2, 3, 5, 6, 7, 10, 31, 32] (fun P S K => XvBinOV P .add 3 (.const (.int .i64 1)) (S.get 32) (.atom (.int .i64 1)) (fun r0 _ => K ⟨[(0, S.get 0), (1, S.get 1), (2, S.get 2), (3, S.get 3), (5, S.get 5), (6, S.get 6), (7, S.get 7), (10, S.get 10), (31, S.get 31), (32, r0)], S.hp, S.nx, S.gh⟩)) ?_
        all_goals try simp (disch := omega) only [wrap_id, wrap8_id]
        all_goals
        first
        | (refine ⟨⟨nw, bs, ls, a + 1, by omega, by rw [hfo, ← hst, rowPr_shut (by simp_all)]; rfl, hnw, hbs, hls0, hls1⟩, [0, 1, 2, 3, 4, 5, 6, 7, 8], by dsimp only; omega, ?_⟩; exact leq9B34)
        | (refine ⟨⟨nw2, bs2, ls2, a + 1, by omega, by rw [hfo, ← hst, show c.people.toNat = b by omega]; exact hst2, hnw2, hbs2, hm0, hm1⟩, [0, 1, 2, 3, 4, 5, 6, 7, 8], by dsimp only; omega, ?_⟩; exact leq9B34)
        | (obtain ⟨rest, e1, e2⟩ := rowPr_split c i a b (c.people.toNat - b)
           rw [show b + (c.people.toNat - b) = c.people.toNat by omega] at e1
           refine ⟨⟨nw2, bs2, ls2, a + 1, by omega, by rw [hfo, ← hst, e1, List.foldl_append, ← hst2, foldl_stuck (by assumption) rest e2], hnw2, hbs2, hm0, hm1⟩, [0, 1, 2, 3, 4, 5, 6, 7, 8], by dsimp only; omega, ?_⟩; exact leq9B34)
    ·try (cases h33; done)
     all_goals (try simp only [CQ] at h33)
     all_goals
     refine Tri.exit ?_
     have hae : a = c.people.toNat := by omega
     subst hae
     have hfin : exG c (k + 1) now loads (best, least) = (nw, (bs, ls)) := by
       rw [hst]
       unfold exG pairsOf
       rw [hie]
     rw [hfin]
     show ResP _ _ _ _ _ _
     exact ResP.nine (fun j o h => by (match j, h with | 0, h => (cases h; refine ⟨_, rfl, rfl, ?_⟩; first | rfl | (simp [-List.map_map, -List.map_set, sealed, PV.ren, renL, rmap, encC, pairs, nats, ints, encI, renL_encP, renL_encI, renL_encN, map_sealed_encP, map_sealed_encI, map_sealed_encN, map_ren_encP, map_ren_encI, map_ren_encN, St.obj, lk, List.take_of_length_le]; done)) | 1, h => (cases h; refine ⟨_, rfl, rfl, ?_⟩; first | rfl | (simp [-List.map_map, -List.map_set, sealed, PV.ren, renL, rmap, encC, pairs, nats, ints, encI, renL_encP, renL_encI, renL_encN, map_sealed_encP, map_sealed_encI, map_sealed_encN, map_ren_encP, map_ren_encI, map_ren_encN, St.obj, lk, List.take_of_length_le]; done)) | 2, h => (cases h; refine ⟨_, rfl, rfl, ?_⟩; first | rfl | (simp [-List.map_map, -List.map_set, sealed, PV.ren, renL, rmap, encC, pairs, nats, ints, encI, renL_encP, renL_encI, renL_encN, map_sealed_encP, map_sealed_encI, map_sealed_encN, map_ren_encP, map_ren_encI, map_ren_encN, St.obj, lk, List.take_of_length_le]; done)) | 3, h => (cases h; refine ⟨_, rfl, rfl, ?_⟩; first | rfl | (simp [-List.map_map, -List.map_set, sealed, PV.ren, renL, rmap, encC, pairs, nats, ints, encI, renL_encP, renL_encI, renL_encN, map_sealed_encP, map_sealed_encI, map_sealed_encN, map_ren_encP, map_ren_encI, map_ren_encN, St.obj, lk, List.take_of_length_le]; done)) | 4, h => (cases h; refine ⟨_, rfl, rfl, ?_⟩; first | rfl | (simp [-List.map_map, -List.map_set, sealed, PV.ren, renL, rmap, encC, pairs, nats, ints, encI, renL_encP, renL_encI, renL_encN, map_sealed_encP, map_sealed_encI, map_sealed_encN, map_ren_encP, map_ren_encI, map_ren_encN, St.obj, lk, List.take_of_length_le]; done)) | 5, h => (cases h; refine ⟨_, rfl, rfl, ?_⟩; first | rfl | (simp [-List.map_map, -List.map_set, sealed, PV.ren, renL, rmap, encC, pairs, nats, ints, encI, renL_encP, renL_encI, renL_encN, map_sealed_encP, map_sealed_encI, map_sealed_encN, map_ren_encP, map_ren_encI, map_ren_encN, St.obj, lk, List.take_of_length_le]; done)) | 6, h => (cases h; refine ⟨_, rfl, rfl, ?_⟩; first | rfl | (simp [-List.map_map, -List.map_set, sealed, PV.ren, renL, rmap, encC, pairs, nats, ints, encI, renL_encP, renL_encI, renL_encN, map_sealed_encP, map_sealed_encI, map_sealed_encN, map_ren_encP, map_ren_encI, map_ren_encN, St.obj, lk, List.take_of_length_le]; done)) | 7, h => (cases h; refine ⟨_, rfl, rfl, ?_⟩; first | rfl | (simp [-List.map_map, -List.map_set, sealed, PV.ren, renL, rmap, encC, pairs, nats, ints, encI, renL_encP, renL_encI, renL_encN, map_sealed_encP, map_sealed_encI, map_sealed_encN, map_ren_encP, map_ren_encI, map_ren_encN, St.obj, lk, List.take_of_length_le]; done)) | 8, h => (cases h; refine ⟨_, rfl, rfl, ?_⟩; first | rfl | (simp [-List.map_map, -List.map_set, sealed, PV.ren, renL, rmap, encC, pairs, nats, ints, encI, renL_encP, renL_encI, renL_encN, map_sealed_encP, map_sealed_encI, map_sealed_encN, map_ren_encP, map_ren_encI, map_ren_encN, St.obj, lk, List.take_of_length_le]; done)) | j + 9, h => simp at h)) rfl rfl rfl rfl
end Go.Proofs.Ytcdeilgijleoaaa
