/-
  The clean machine: a row that is empty is nil or is not.
-/
import Derived.Test.YtcdeilgijleoaaaNA2
import Derived.Test.YtcdeilgijleoaaaNB48
import Derived.Test.YtcdeilgijleoaaaNA1
import Derived.Test.YtcdeilgijleoaaaNB34
import Derived.Test.YtcdeilgijleoaaaNB33
set_option linter.all false
namespace Go.Proofs.Ytcdeilgijleoaaa
open Go Go.RowKit
theorem Sound.nilX {P : Program} {t t' e : TypeId} {x : Operand} {S : St} {ad : Addr} {n c : Nat} (hx : S.ev x = .atom (.slice (some ad) n c)) (he : tElem P t = some e) : Sound P (.binOp .eql t x (.const (.slice none 0 0)) t') S (.atom (.bool false)) e0 :=
  Sound.quiet fun o ac w0 F0 D μ F H w hop hH hxs hr => by
    have hu : ac.eval x = .slice (some ad) n c := by
      have := hxs x (by simp [Op.operands])
      rw [hx] at this
      generalize ac.eval x = u at this
      cases this; rfl
    refine ⟨_, ?_, .atom _⟩
    have := (run_nilS (P := P) he (some ad) n c w x (.const (.slice none 0 0))).1
    unfold execOp
    simp only [hop, hu]
    rw [Sem.run_bind, show ac.eval (.const (.slice none 0 0)) = .slice none 0 0 from rfl, this]
    rfl
theorem Sim.know {P : Program} {w0 : Home} {F0 D : Nat → Prop} {μ : Nat → Option Nat} {F : Nat → Prop} {G : List Value} {S : St} {n : Nat} {a : Act} {w : World} (hS : Sim w0 F0 D μ F G S n a w) (d : Nat) (p : PV) (h : Rep D μ F w p (a.tmps.getD d undef)) : Sim w0 F0 D μ F G (S.known d p) n a w := by
  refine ⟨hS.defers, hS.size, fun s => ?_, hS.heap, hS.ids, hS.ghl, hS.gh⟩
  show Rep _ _ _ _ ((lk ((d, p) :: S.env) s).getD .junk) _
  unfold lk
  split
  · rename_i hs
    subst hs
    exact h
  · exact hS.env s
theorem Tri.emptyS {P : Program} {n : Nat} {c : Code} {S : St} {Q : Exit → St → Prop} (d sz : Nat) (h : S.get d = .sl sz []) (h1 : Tri P n c (S.known d (.atom (.slice none 0 0))) Q)
    (h2 : ∀ x cap, cap ≤ maxLen → x.spot = none → Tri P n c (S.known d (.atom (.slice (some x) 0 cap))) Q) : Tri P n c S Q := fun w0 F0 D μ F G a w hS => by
  have hr := hS.env d
  rw [h] at hr
  generalize hu : a.tmps.getD d undef = u at hr
  cases hr with
  | sl0 sz ad cap hc hn hx =>
    cases ad with
    | none =>
      obtain rfl := hn rfl
      exact h1 w0 F0 D μ F G a w (hS.know (P := P) d _ (by rw [hu]; exact .atom _))
    | some x => exact h2 x cap hc (hx x rfl) w0 F0 D μ F G a w (hS.know (P := P) d _ (by rw [hu]; exact .atom _))
  | sl sz l b off cap g hb hl hcp hg hz hcell =>
    exact h2 ⟨b, off, none⟩ cap hcp rfl w0 F0 D μ F G a w (hS.know (P := P) d _ (by rw [hu]; exact .atom _))
theorem Tri.forget {P : Program} {n : Nat} {c : Code} {S : St} {Q : Exit → St → Prop} (d sz : Nat) {x : Addr} {cap : Nat} (h : S.get d = .atom (.slice (some x) 0 cap)) (hc : cap ≤ maxLen) (hx : x.spot = none) (h1 : Tri P n c (S.known d (.sl sz [])) Q) : Tri P n c S Q := fun w0 F0 D μ F G a w hS => by
  have hr := hS.env d
  rw [h] at hr
  refine h1 w0 F0 D μ F G a w (hS.know (P := P) d _ ?_)
  generalize hu : a.tmps.getD d undef = u at hr
  cases hr
  exact .sl0 sz (some x) cap hc (fun h => by cases h) (fun y hy => by cases hy; exact hx)
set_option maxRecDepth 20000
set_option maxHeartbeats 1000000
theorem Clone_nil : Pure Try.prog 72 [pairs []] (pairs []) [] := by
  refine Pure.intro (ts := [2]) Try.func72 (by kernel_rfl) rfl rfl rfl (Nat.le_of_ble_eq_true rfl) ?_ ?_
  · simp [pure_pairs, PV.pure, pureL]
  refine sZ [0] (fun P S K => K ⟨[(0, S.get 0)], S.hp, S.nx, S.gh⟩) fun K hK => ?_
  refine hK _ ?_; clear hK K
  refine Tri.emptyS 0 2 rfl ?_ (fun x cap hc hx => ?_)
  · refine Tri.seq ?_
    refine sZ [0, 4] (fun P S K => XvBinOV P .eql 23 (.const (.slice none 0 0)) (S.get 0) (.atom (.slice none 0 0)) (fun r1 _ => K ⟨[(0, S.get 0), (4, r1)], S.hp, S.nx, S.gh⟩)) fun K hK => ?_
    repeat' (first | (refine hK _ ?_; clear hK K) | refine And.intro ?_ ?_ | exact cl | (refine st ?_; try simp only [pairs, nilSl]) | simp only [pairs, nilSl])
    all_goals
    refine Tri.cond rfl (fun h4 => ?_) (fun h4 => ?_)
    · refine sZ [2] (fun P S K => K ⟨[(2, (.atom (.slice none 0 0)))], S.hp, S.nx, S.gh⟩) fun K hK => ?_
      refine hK _ ?_; clear hK K
      refine Tri.asSl 2 2 rfl ?_
      refine Tri.ret ?_
      show ResOk _ _ _ _
      exact ResOk.frz 5 rfl rfl
    · cases h4
  · refine Tri.seq ?_
    refine Tri.seq ?_
    refine Tri.region (l := [_, _]) (by kernel_rfl) ?_
    refine ⟨_, _, Sound.toI Sound.move, ⟨_, _, Sound.toI (Sound.nilX (e := 67) (ad := x) (n := 0) (c := cap) rfl rfl), ?_⟩⟩
    refine ⟨_, SEq.refl _, ?_⟩
    show Tri _ _ _ _ _
    refine Tri.cond (t := false) rfl (fun h4 => nomatch h4) (fun h4 => ?_)
    refine Tri.skip ?_
    show Tri _ _ _ _ _
    refine Tri.forget 0 2 (x := x) (cap := cap) rfl hc hx ?_
    refine sZ [2] (fun P S K => XvBuildS P 23 0 S.nx [] (fun r0 ef0 => (23 = 23 ∧ XvAppend P 23 (M (Eff.hp ef0 S.nx S.hp) (S.nx + ef0.add.length)) r0 (S.get 0) (fun r2 ef2 => K ⟨[(2, r2)], (Eff.hp ef2 (S.nx + ef0.add.length) (Eff.hp ef0 S.nx S.hp)), ((S.nx + ef0.add.length) + ef2.add.length), S.gh⟩)))) fun K hK => ?_
    repeat' (first | (refine hK _ ?_; clear hK K) | refine And.intro ?_ ?_ | exact cl | exact one_encP _ | refine one_take ?_ _ | refine one_drop ?_ _ | (refine st ?_; try simp only [pairs, nilSl, St.known, St.fin]) | simp only [pairs, nilSl, St.known, St.fin])
    all_goals
    refine Tri.ret ?_
    show ResOk _ _ _ _
    exact ResOk.frz 5 rfl rfl
set_option maxHeartbeats 4000000
theorem place_base0 (c : CaseD) (hG : Good c) (loads : List Int) (best : List (Int × Int)) (least : Int) (hl : LoadOk c loads) :
    Proc Try.prog 71 [encI 0, .ptr 0 1 0 0, .ptr 1 1 0 0, .ptr 2 1 0 0, .ptr 3 1 0 0, .ptr 4 3 0 0, .ptr 5 1 0 0, .ptr 6 1 0 0] [⟨1, [.ob 7 2 0 0]⟩, ⟨1, [.ob 8 1 0 c.people.toNat]⟩, ⟨1, [encI least]⟩, ⟨1, [pairs best]⟩, ⟨3, [encC c]⟩, ⟨1, [nats (opens c)]⟩, ⟨1, [.fn 71 [.ptr 0 1 0 0, .ptr 1 1 0 0, .ptr 2 1 0 0, .ptr 3 1 0 0, .ptr 4 3 0 0, .ptr 5 1 0 0, .ptr 6 1 0 0]]⟩, ⟨2, ([] : List (Int × Int)).map encP⟩, ⟨1, loads.map encI⟩] (.tup []) [some ⟨1, [.ob 7 2 0 0]⟩, some ⟨1, [.ob 8 1 0 c.people.toNat]⟩, some ⟨1, [encI (exG c 0 ([] : List (Int × Int)) loads (best, least)).2.2]⟩, some ⟨1, [pairs (exG c 0 ([] : List (Int × Int)) loads (best, least)).2.1]⟩, some ⟨3, [encC c]⟩, some ⟨1, [nats (opens c)]⟩, some ⟨1, [.fn 71 [.ptr 0 1 0 0, .ptr 1 1 0 0, .ptr 2 1 0 0, .ptr 3 1 0 0, .ptr 4 3 0 0, .ptr 5 1 0 0, .ptr 6 1 0 0]]⟩, some ⟨2, (exG c 0 ([] : List (Int × Int)) loads (best, least)).1.map encP⟩, some ⟨1, loads.map encI⟩] [] := by
  have hlo := hG.lo
  have hhi := hG.hi
  have hll := hl.len
  have hmx : maxFrom loads c.people.toNat = greatest loads := by rw [← hll]; exact maxFrom_all (by omega) hl.pos
  have hMax := Max_pure loads (by omega) (by omega)
  rw [hll, hmx] at hMax
  have hCl := Clone_nil
  refine Proc.intro (ts := []) Try.func71 (by kernel_rfl) rfl rfl rfl (Nat.le_of_ble_eq_true rfl) rfl ?_
  simp only [objEnv, marks, List.map_cons, List.map_nil, List.length_cons, List.length_nil, Nat.zero_add, Nat.reduceAdd]
  refine Tri.scope ?_
  refine Tri.seq ?_
  refine sZ [0, 1, 2, 3, 4, 5, 6, 7, 16] (fun P S K => XvLoad P 23 (M S.hp S.nx) (S.get 1) (fun r1 _ => XvLen P 23 r1 (fun r2 _ => XvBinOV P .eql 3 (.tmp 15) (S.get 0) r2 (fun r3 _ => K ⟨[(0, S.get 0), (1, S.get 1), (2, S.get 2), (3, S.get 3), (4, S.get 4), (5, S.get 5), (6, S.get 6), (7, S.get 7), (16, r3)], S.hp, S.nx, S.gh⟩)))) fun K hK => ?_
  repeat' (first | (refine hK _ ?_; clear hK K) | refine And.intro ?_ ?_ | exact cl | exact one_encP _ | exact flat_encI _ | exact flat_encP _ | refine one_take ?_ _ | refine one_drop ?_ _ | (refine st ?_; try simp only [encC, pairs, nats, dec_self]) | simp only [encC, pairs, nats, dec_self])
  all_goals
  refine Tri.cond rfl (fun h16 => ?_) (fun h16 => ?_)
  ·try (cases h16; done)
   all_goals (try simp only [CQ] at h16)
   all_goals
   refine Tri.seq ?_
   refine sZ [1, 3, 4, 9] (fun P S K => XvLoad P 22 (M S.hp S.nx) (S.get 2) (fun r0 _ => XvFnIV P (M S.hp S.nx) (.fn 52 []) [r0] (fun r1 ef1 => K ⟨[(1, S.get 1), (3, S.get 3), (4, S.get 4), (9, r1)], (Eff.hp ef1 S.nx S.hp), (S.nx + ef1.add.length), S.gh⟩))) fun K hK => ?_
   repeat' (first | (refine hK _ ?_; clear hK K) | refine And.intro ?_ ?_ | exact cl | exact one_encP _ | exact flat_encI _ | exact flat_encP _ | refine one_take ?_ _ | refine one_drop ?_ _ | refine .inl ⟨_, _, hMax, ?_⟩ | refine .inl ⟨_, _, hCl, ?_⟩ | (refine st ?_; try simp only [encC, pairs, nats, dec_self, hll, Nat.le_refl, if_true, (show List.take c.people.toNat (loads.map encI) = loads.map encI from List.take_of_length_le (by rw [List.length_map, hll]; exact Nat.le_refl _)), map_sealed_encI]) | simp only [encC, pairs, nats, dec_self, hll, Nat.le_refl, if_true, (show List.take c.people.toNat (loads.map encI) = loads.map encI from List.take_of_length_le (by rw [List.length_map, hll]; exact Nat.le_refl _)), map_sealed_encI])
   all_goals
   refine sZ [1, 3, 4, 9, 21] (fun P S K => XvLoad P 3 (M S.hp S.nx) (S.get 3) (fun r1 _ => XvBinOV P .lss 3 (.tmp 20) (S.get 9) r1 (fun r2 _ => K ⟨[(1, S.get 1), (3, S.get 3), (4, S.get 4), (9, S.get 9), (21, r2)], S.hp, S.nx, S.gh⟩))) fun K hK => ?_
   repeat' (first | (refine hK _ ?_; clear hK K) | refine And.intro ?_ ?_ | exact cl | exact one_encP _ | exact flat_encI _ | exact flat_encP _ | refine one_take ?_ _ | refine one_drop ?_ _ | (refine st ?_; try simp only [encC, pairs, nats, dec_self]) | simp only [encC, pairs, nats, dec_self])
   all_goals
   refine Tri.cond rfl (fun h21 => ?_) (fun h21 => ?_)
   ·try (cases h21; done)
    all_goals (try simp only [CQ] at h21)
    all_goals
    refine rZ [] (fun P S K => XvLoad P 23 (M S.hp S.nx) (S.get 1) (fun r0 _ => XvFnIV P (M S.hp S.nx) (.fn 72 []) [r0] (fun r1 ef1 => XvStore P 23 (M (Eff.hp ef1 S.nx S.hp) (S.nx + ef1.add.length)) (S.get 4) r1 (fun r3 ef3 => XvStore P 3 (M (Eff.hp ef3 (S.nx + ef1.add.length) (Eff.hp ef1 S.nx S.hp)) ((S.nx + ef1.add.length) + ef3.add.length)) (S.get 3) (S.get 9) (fun r4 ef4 => K ⟨[], (Eff.hp ef4 ((S.nx + ef1.add.length) + ef3.add.length) (Eff.hp ef3 (S.nx + ef1.add.length) (Eff.hp ef1 S.nx S.hp))), (((S.nx + ef1.add.length) + ef3.add.length) + ef4.add.length), S.gh⟩))))) fun K hK => ?_
    repeat' (first | (refine hK _ ?_; clear hK K) | refine And.intro ?_ ?_ | exact cl | exact one_encP _ | exact flat_encI _ | exact flat_encP _ | refine one_take ?_ _ | refine one_drop ?_ _ | refine .inl ⟨_, _, hMax, ?_⟩ | refine .inl ⟨_, _, hCl, ?_⟩ | (refine st ?_; try simp only [encC, pairs, nats, dec_self]) | simp only [encC, pairs, nats, dec_self])
    all_goals
    refine Tri.ret ?_
    show ResP _ _ _ _ _ _
    first
    | (rw [show exG c 0 [] loads (best, least) = ([], ([], greatest loads)) by unfold exG; rw [if_pos (by assumption)]]
       exact ResP.nine (fun j o h => by (match j, h with | 0, h => (cases h; refine ⟨_, rfl, rfl, ?_⟩; first | rfl | (simp [-List.map_map, -List.map_set, sealed, PV.ren, renL, rmap, encC, pairs, nats, ints, encI, renL_encP, renL_encI, renL_encN, map_sealed_encP, map_sealed_encI, map_sealed_encN, map_ren_encP, map_ren_encI, map_ren_encN, St.obj, lk, List.take_of_length_le, hll]; done)) | 1, h => (cases h; refine ⟨_, rfl, rfl, ?_⟩; first | rfl | (simp [-List.map_map, -List.map_set, sealed, PV.ren, renL, rmap, encC, pairs, nats, ints, encI, renL_encP, renL_encI, renL_encN, map_sealed_encP, map_sealed_encI, map_sealed_encN, map_ren_encP, map_ren_encI, map_ren_encN, St.obj, lk, List.take_of_length_le, hll]; done)) | 2, h => (cases h; refine ⟨_, rfl, rfl, ?_⟩; first | rfl | (simp [-List.map_map, -List.map_set, sealed, PV.ren, renL, rmap, encC, pairs, nats, ints, encI, renL_encP, renL_encI, renL_encN, map_sealed_encP, map_sealed_encI, map_sealed_encN, map_ren_encP, map_ren_encI, map_ren_encN, St.obj, lk, List.take_of_length_le, hll]; done)) | 3, h => (cases h; refine ⟨_, rfl, rfl, ?_⟩; first | rfl | (simp [-List.map_map, -List.map_set, sealed, PV.ren, renL, rmap, encC, pairs, nats, ints, encI, renL_encP, renL_encI, renL_encN, map_sealed_encP, map_sealed_encI, map_sealed_encN, map_ren_encP, map_ren_encI, map_ren_encN, St.obj, lk, List.take_of_length_le, hll]; done)) | 4, h => (cases h; refine ⟨_, rfl, rfl, ?_⟩; first | rfl | (simp [-List.map_map, -List.map_set, sealed, PV.ren, renL, rmap, encC, pairs, nats, ints, encI, renL_encP, renL_encI, renL_encN, map_sealed_encP, map_sealed_encI, map_sealed_encN, map_ren_encP, map_ren_encI, map_ren_encN, St.obj, lk, List.take_of_length_le, hll]; done)) | 5, h => (cases h; refine ⟨_, rfl, rfl, ?_⟩; first | rfl | (simp [-List.map_map, -List.map_set, sealed, PV.ren, renL, rmap, encC, pairs, nats, ints, encI, renL_encP, renL_encI, renL_encN, map_sealed_encP, map_sealed_encI, map_sealed_encN, map_ren_encP, map_ren_encI, map_ren_encN, St.obj, lk, List.take_of_length_le, hll]; done)) | 6, h => (cases h; refine ⟨_, rfl, rfl, ?_⟩; first | rfl | (simp [-List.map_map, -List.map_set, sealed, PV.ren, renL, rmap, encC, pairs, nats, ints, encI, renL_encP, renL_encI, renL_encN, map_sealed_encP, map_sealed_encI, map_sealed_encN, map_ren_encP, map_ren_encI, map_ren_encN, St.obj, lk, List.take_of_length_le, hll]; done)) | 7, h => (cases h; refine ⟨_, rfl, rfl, ?_⟩; first | rfl | (simp [-List.map_map, -List.map_set, sealed, PV.ren, renL, rmap, encC, pairs, nats, ints, encI, renL_encP, renL_encI, renL_encN, map_sealed_encP, map_sealed_encI, map_sealed_encN, map_ren_encP, map_ren_encI, map_ren_encN, St.obj, lk, List.take_of_length_le, hll]; done)) | 8, h => (cases h; refine ⟨_, rfl, rfl, ?_⟩; first | rfl | (simp [-List.map_map, -List.map_set, sealed, PV.ren, renL, rmap, encC, pairs, nats, ints, encI, renL_encP, renL_encI, renL_encN, map_sealed_encP, map_sealed_encI, map_sealed_encN, map_ren_encP, map_ren_encI, map_ren_encN, St.obj, lk, List.take_of_length_le, hll]; done)) | j + 9, h => simp at h)) rfl rfl rfl rfl)
    | (rw [show exG c 0 [] loads (best, least) = ([], (best, least)) by unfold exG; rw [if_neg (by assumption)]]
       exact ResP.nine (fun j o h => by (match j, h with | 0, h => (cases h; refine ⟨_, rfl, rfl, ?_⟩; first | rfl | (simp [-List.map_map, -List.map_set, sealed, PV.ren, renL, rmap, encC, pairs, nats, ints, encI, renL_encP, renL_encI, renL_encN, map_sealed_encP, map_sealed_encI, map_sealed_encN, map_ren_encP, map_ren_encI, map_ren_encN, St.obj, lk, List.take_of_length_le, hll]; done)) | 1, h => (cases h; refine ⟨_, rfl, rfl, ?_⟩; first | rfl | (simp [-List.map_map, -List.map_set, sealed, PV.ren, renL, rmap, encC, pairs, nats, ints, encI, renL_encP, renL_encI, renL_encN, map_sealed_encP, map_sealed_encI, map_sealed_encN, map_ren_encP, map_ren_encI, map_ren_encN, St.obj, lk, List.take_of_length_le, hll]; done)) | 2, h => (cases h; refine ⟨_, rfl, rfl, ?_⟩; first | rfl | (simp [-List.map_map, -List.map_set, sealed, PV.ren, renL, rmap, encC, pairs, nats, ints, encI, renL_encP, renL_encI, renL_encN, map_sealed_encP, map_sealed_encI, map_sealed_encN, map_ren_encP, map_ren_encI, map_ren_encN, St.obj, lk, List.take_of_length_le, hll]; done)) | 3, h => (cases h; refine ⟨_, rfl, rfl, ?_⟩; first | rfl | (simp [-List.map_map, -List.map_set, sealed, PV.ren, renL, rmap, encC, pairs, nats, ints, encI, renL_encP, renL_encI, renL_encN, map_sealed_encP, map_sealed_encI, map_sealed_encN, map_ren_encP, map_ren_encI, map_ren_encN, St.obj, lk, List.take_of_length_le, hll]; done)) | 4, h => (cases h; refine ⟨_, rfl, rfl, ?_⟩; first | rfl | (simp [-List.map_map, -List.map_set, sealed, PV.ren, renL, rmap, encC, pairs, nats, ints, encI, renL_encP, renL_encI, renL_encN, map_sealed_encP, map_sealed_encI, map_sealed_encN, map_ren_encP, map_ren_encI, map_ren_encN, St.obj, lk, List.take_of_length_le, hll]; done)) | 5, h => (cases h; refine ⟨_, rfl, rfl, ?_⟩; first | rfl | (simp [-List.map_map, -List.map_set, sealed, PV.ren, renL, rmap, encC, pairs, nats, ints, encI, renL_encP, renL_encI, renL_encN, map_sealed_encP, map_sealed_encI, map_sealed_encN, map_ren_encP, map_ren_encI, map_ren_encN, St.obj, lk, List.take_of_length_le, hll]; done)) | 6, h => (cases h; refine ⟨_, rfl, rfl, ?_⟩; first | rfl | (simp [-List.map_map, -List.map_set, sealed, PV.ren, renL, rmap, encC, pairs, nats, ints, encI, renL_encP, renL_encI, renL_encN, map_sealed_encP, map_sealed_encI, map_sealed_encN, map_ren_encP, map_ren_encI, map_ren_encN, St.obj, lk, List.take_of_length_le, hll]; done)) | 7, h => (cases h; refine ⟨_, rfl, rfl, ?_⟩; first | rfl | (simp [-List.map_map, -List.map_set, sealed, PV.ren, renL, rmap, encC, pairs, nats, ints, encI, renL_encP, renL_encI, renL_encN, map_sealed_encP, map_sealed_encI, map_sealed_encN, map_ren_encP, map_ren_encI, map_ren_encN, St.obj, lk, List.take_of_length_le, hll]; done)) | 8, h => (cases h; refine ⟨_, rfl, rfl, ?_⟩; first | rfl | (simp [-List.map_map, -List.map_set, sealed, PV.ren, renL, rmap, encC, pairs, nats, ints, encI, renL_encP, renL_encI, renL_encN, map_sealed_encP, map_sealed_encI, map_sealed_encN, map_ren_encP, map_ren_encI, map_ren_encN, St.obj, lk, List.take_of_length_le, hll]; done)) | j + 9, h => simp at h)) rfl rfl rfl rfl)
   ·try (cases h21; done)
    all_goals (try simp only [CQ] at h21)
    all_goals
    refine Tri.skip ?_
    refine Tri.ret ?_
    show ResP _ _ _ _ _ _
    first
    | (rw [show exG c 0 [] loads (best, least) = ([], ([], greatest loads)) by unfold exG; rw [if_pos (by assumption)]]
       exact ResP.nine (fun j o h => by (match j, h with | 0, h => (cases h; refine ⟨_, rfl, rfl, ?_⟩; first | rfl | (simp [-List.map_map, -List.map_set, sealed, PV.ren, renL, rmap, encC, pairs, nats, ints, encI, renL_encP, renL_encI, renL_encN, map_sealed_encP, map_sealed_encI, map_sealed_encN, map_ren_encP, map_ren_encI, map_ren_encN, St.obj, lk, List.take_of_length_le, hll]; done)) | 1, h => (cases h; refine ⟨_, rfl, rfl, ?_⟩; first | rfl | (simp [-List.map_map, -List.map_set, sealed, PV.ren, renL, rmap, encC, pairs, nats, ints, encI, renL_encP, renL_encI, renL_encN, map_sealed_encP, map_sealed_encI, map_sealed_encN, map_ren_encP, map_ren_encI, map_ren_encN, St.obj, lk, List.take_of_length_le, hll]; done)) | 2, h => (cases h; refine ⟨_, rfl, rfl, ?_⟩; first | rfl | (simp [-List.map_map, -List.map_set, sealed, PV.ren, renL, rmap, encC, pairs, nats, ints, encI, renL_encP, renL_encI, renL_encN, map_sealed_encP, map_sealed_encI, map_sealed_encN, map_ren_encP, map_ren_encI, map_ren_encN, St.obj, lk, List.take_of_length_le, hll]; done)) | 3, h => (cases h; refine ⟨_, rfl, rfl, ?_⟩; first | rfl | (simp [-List.map_map, -List.map_set, sealed, PV.ren, renL, rmap, encC, pairs, nats, ints, encI, renL_encP, renL_encI, renL_encN, map_sealed_encP, map_sealed_encI, map_sealed_encN, map_ren_encP, map_ren_encI, map_ren_encN, St.obj, lk, List.take_of_length_le, hll]; done)) | 4, h => (cases h; refine ⟨_, rfl, rfl, ?_⟩; first | rfl | (simp [-List.map_map, -List.map_set, sealed, PV.ren, renL, rmap, encC, pairs, nats, ints, encI, renL_encP, renL_encI, renL_encN, map_sealed_encP, map_sealed_encI, map_sealed_encN, map_ren_encP, map_ren_encI, map_ren_encN, St.obj, lk, List.take_of_length_le, hll]; done)) | 5, h => (cases h; refine ⟨_, rfl, rfl, ?_⟩; first | rfl | (simp [-List.map_map, -List.map_set, sealed, PV.ren, renL, rmap, encC, pairs, nats, ints, encI, renL_encP, renL_encI, renL_encN, map_sealed_encP, map_sealed_encI, map_sealed_encN, map_ren_encP, map_ren_encI, map_ren_encN, St.obj, lk, List.take_of_length_le, hll]; done)) | 6, h => (cases h; refine ⟨_, rfl, rfl, ?_⟩; first | rfl | (simp [-List.map_map, -List.map_set, sealed, PV.ren, renL, rmap, encC, pairs, nats, ints, encI, renL_encP, renL_encI, renL_encN, map_sealed_encP, map_sealed_encI, map_sealed_encN, map_ren_encP, map_ren_encI, map_ren_encN, St.obj, lk, List.take_of_length_le, hll]; done)) | 7, h => (cases h; refine ⟨_, rfl, rfl, ?_⟩; first | rfl | (simp [-List.map_map, -List.map_set, sealed, PV.ren, renL, rmap, encC, pairs, nats, ints, encI, renL_encP, renL_encI, renL_encN, map_sealed_encP, map_sealed_encI, map_sealed_encN, map_ren_encP, map_ren_encI, map_ren_encN, St.obj, lk, List.take_of_length_le, hll]; done)) | 8, h => (cases h; refine ⟨_, rfl, rfl, ?_⟩; first | rfl | (simp [-List.map_map, -List.map_set, sealed, PV.ren, renL, rmap, encC, pairs, nats, ints, encI, renL_encP, renL_encI, renL_encN, map_sealed_encP, map_sealed_encI, map_sealed_encN, map_ren_encP, map_ren_encI, map_ren_encN, St.obj, lk, List.take_of_length_le, hll]; done)) | j + 9, h => simp at h)) rfl rfl rfl rfl)
    | (rw [show exG c 0 [] loads (best, least) = ([], (best, least)) by unfold exG; rw [if_neg (by assumption)]]
       exact ResP.nine (fun j o h => by (match j, h with | 0, h => (cases h; refine ⟨_, rfl, rfl, ?_⟩; first | rfl | (simp [-List.map_map, -List.map_set, sealed, PV.ren, renL, rmap, encC, pairs, nats, ints, encI, renL_encP, renL_encI, renL_encN, map_sealed_encP, map_sealed_encI, map_sealed_encN, map_ren_encP, map_ren_encI, map_ren_encN, St.obj, lk, List.take_of_length_le, hll]; done)) | 1, h => (cases h; refine ⟨_, rfl, rfl, ?_⟩; first | rfl | (simp [-List.map_map, -List.map_set, sealed, PV.ren, renL, rmap, encC, pairs, nats, ints, encI, renL_encP, renL_encI, renL_encN, map_sealed_encP, map_sealed_encI, map_sealed_encN, map_ren_encP, map_ren_encI, map_ren_encN, St.obj, lk, List.take_of_length_le, hll]; done)) | 2, h => (cases h; refine ⟨_, rfl, rfl, ?_⟩; first | rfl | (simp [-List.map_map, -List.map_set, sealed, PV.ren, renL, rmap, encC, pairs, nats, ints, encI, renL_encP, renL_encI, renL_encN, map_sealed_encP, map_sealed_encI, map_sealed_encN, map_ren_encP, map_ren_encI, map_ren_encN, St.obj, lk, List.take_of_length_le, hll]; done)) | 3, h => (cases h; refine ⟨_, rfl, rfl, ?_⟩; first | rfl | (simp [-List.map_map, -List.map_set, sealed, PV.ren, renL, rmap, encC, pairs, nats, ints, encI, renL_encP, renL_encI, renL_encN, map_sealed_encP, map_sealed_encI, map_sealed_encN, map_ren_encP, map_ren_encI, map_ren_encN, St.obj, lk, List.take_of_length_le, hll]; done)) | 4, h => (cases h; refine ⟨_, rfl, rfl, ?_⟩; first | rfl | (simp [-List.map_map, -List.map_set, sealed, PV.ren, renL, rmap, encC, pairs, nats, ints, encI, renL_encP, renL_encI, renL_encN, map_sealed_encP, map_sealed_encI, map_sealed_encN, map_ren_encP, map_ren_encI, map_ren_encN, St.obj, lk, List.take_of_length_le, hll]; done)) | 5, h => (cases h; refine ⟨_, rfl, rfl, ?_⟩; first | rfl | (simp [-List.map_map, -List.map_set, sealed, PV.ren, renL, rmap, encC, pairs, nats, ints, encI, renL_encP, renL_encI, renL_encN, map_sealed_encP, map_sealed_encI, map_sealed_encN, map_ren_encP, map_ren_encI, map_ren_encN, St.obj, lk, List.take_of_length_le, hll]; done)) | 6, h => (cases h; refine ⟨_, rfl, rfl, ?_⟩; first | rfl | (simp [-List.map_map, -List.map_set, sealed, PV.ren, renL, rmap, encC, pairs, nats, ints, encI, renL_encP, renL_encI, renL_encN, map_sealed_encP, map_sealed_encI, map_sealed_encN, map_ren_encP, map_ren_encI, map_ren_encN, St.obj, lk, List.take_of_length_le, hll]; done)) | 7, h => (cases h; refine ⟨_, rfl, rfl, ?_⟩; first | rfl | (simp [-List.map_map, -List.map_set, sealed, PV.ren, renL, rmap, encC, pairs, nats, ints, encI, renL_encP, renL_encI, renL_encN, map_sealed_encP, map_sealed_encI, map_sealed_encN, map_ren_encP, map_ren_encI, map_ren_encN, St.obj, lk, List.take_of_length_le, hll]; done)) | 8, h => (cases h; refine ⟨_, rfl, rfl, ?_⟩; first | rfl | (simp [-List.map_map, -List.map_set, sealed, PV.ren, renL, rmap, encC, pairs, nats, ints, encI, renL_encP, renL_encI, renL_encN, map_sealed_encP, map_sealed_encI, map_sealed_encN, map_ren_encP, map_ren_encI, map_ren_encN, St.obj, lk, List.take_of_length_le, hll]; done)) | j + 9, h => simp at h)) rfl rfl rfl rfl)
  ·try (cases h16; done)
   all_goals (try simp only [CQ] at h16)
   all_goals
   refine Tri.skip ?_
   refine sZ [0, 1, 2, 3, 5, 6, 7, 10] (fun P S K => XvFieldAddr P 38 0 (S.get 5) (fun r0 _ => XvLoad P 22 (M S.hp S.nx) r0 (fun r1 _ => XvIndexAddr P 22 r1 (S.get 0) (fun r3 _ => XvLoad P 3 (M S.hp S.nx) r3 (fun r4 _ => K ⟨[(0, S.get 0), (1, S.get 1), (2, S.get 2), (3, S.get 3), (5, S.get 5), (6, S.get 6), (7, S.get 7), (10, r4)], S.hp, S.nx, S.gh⟩))))) fun K hK => ?_
   repeat' (first | (refine hK _ ?_; clear hK K) | refine And.intro ?_ ?_ | exact cl | exact one_encP _ | exact flat_encI _ | exact flat_encP _ | refine one_take ?_ _ | refine one_drop ?_ _ | (refine st ?_; try simp only [encC, pairs, nats, dec_self]) | simp only [encC, pairs, nats, dec_self])
   all_goals
   refine Tri.seq ?_
   refine Tri.label ?_
   refine sZ [0, 1, 2, 3, 5, 6, 7, 10, 31, 32] (fun P S K => XvFieldAddr P 38 1 (S.get 5) (fun r0 _ => XvLoad P 3 (M S.hp S.nx) r0 (fun r1 _ => K ⟨[(0, S.get 0), (1, S.get 1), (2, S.get 2), (3, S.get 3), (5, S.get 5), (6, S.get 6), (7, S.get 7), (10, S.get 10), (31, r1), (32, (.atom (.int .i64 0)))], S.hp, S.nx, S.gh⟩))) fun K hK => ?_
   repeat' (first | (refine hK _ ?_; clear hK K) | refine And.intro ?_ ?_ | exact cl | exact one_encP _ | exact flat_encI _ | exact flat_encP _ | refine one_take ?_ _ | refine one_drop ?_ _ | (refine st ?_; try simp only [encC, pairs, nats, dec_self]) | simp only [encC, pairs, nats, dec_self])
   all_goals
   refine Tri.block ?_
   fail -- LOOP 0
theorem place_all (c : CaseD) (hG : Good c) : ∀ (k : Nat) (now : List (Int × Int)) (loads : List Int) (best : List (Int × Int)) (least : Int), k ≤ c.sizes.length → ExOk c (c.sizes.length - k) now loads best least →
    Proc Try.prog 71 [encI ((c.sizes.length - k : Nat) : Int), .ptr 0 1 0 0, .ptr 1 1 0 0, .ptr 2 1 0 0, .ptr 3 1 0 0, .ptr 4 3 0 0, .ptr 5 1 0 0, .ptr 6 1 0 0] [⟨1, [.ob 7 2 0 c.sizes.length]⟩, ⟨1, [.ob 8 1 0 c.people.toNat]⟩, ⟨1, [encI least]⟩, ⟨1, [pairs best]⟩, ⟨3, [encC c]⟩, ⟨1, [nats (opens c)]⟩, ⟨1, [.fn 71 [.ptr 0 1 0 0, .ptr 1 1 0 0, .ptr 2 1 0 0, .ptr 3 1 0 0, .ptr 4 3 0 0, .ptr 5 1 0 0, .ptr 6 1 0 0]]⟩, ⟨2, now.map encP⟩, ⟨1, loads.map encI⟩] (.tup []) [some ⟨1, [.ob 7 2 0 c.sizes.length]⟩, some ⟨1, [.ob 8 1 0 c.people.toNat]⟩, some ⟨1, [encI (exG c k now loads (best, least)).2.2]⟩, some ⟨1, [pairs (exG c k now loads (best, least)).2.1]⟩, some ⟨3, [encC c]⟩, some ⟨1, [nats (opens c)]⟩, some ⟨1, [.fn 71 [.ptr 0 1 0 0, .ptr 1 1 0 0, .ptr 2 1 0 0, .ptr 3 1 0 0, .ptr 4 3 0 0, .ptr 5 1 0 0, .ptr 6 1 0 0]]⟩, some ⟨2, (exG c k now loads (best, least)).1.map encP⟩, some ⟨1, loads.map encI⟩] []
  | 0, now, loads, best, least, hk, hok => by
    obtain ⟨hn, hl, -⟩ := hok
    rcases Nat.eq_zero_or_pos c.sizes.length with h0 | h0
    · obtain rfl : now = [] := List.eq_nil_of_length_eq_zero (by omega)
      rw [h0]
      exact place_base0 c hG loads best least hl
    · exact place_base c hG now loads best least h0 hn hl
  | k + 1, now, loads, best, least, hk, hok => by
    refine place_step c hG k (c.sizes.length - (k + 1)) (by omega) now loads best least hok (fun now loads best least hok => ?_)
    have := place_all c hG k now loads best least (by omega) (by rw [show c.sizes.length - k = c.sizes.length - (k + 1) + 1 by omega]; exact hok)
    rw [show (((c.sizes.length - k : Nat) : Int)) = ((c.sizes.length - (k + 1) : Nat) : Int) + 1 by omega] at this
    exact this
def exactP (c : CaseD) : List (Int × Int) := (searchF c c.sizes.length (zerosL c) 1048576).1
theorem rowsP (n : Nat) : List.replicate n (PV.agg [.atom (.int .i64 0), .atom (.int .i64 0)]) = (List.replicate n ((0 : Int), (0 : Int))).map encP := by rw [List.map_replicate]; rfl
theorem rowsZ (c : CaseD) : List.replicate c.people.toNat (PV.atom (.int .i64 0)) = (zerosL c).map encI := by unfold zerosL; rw [List.map_replicate]; rfl
theorem exact_pure (c : CaseD) (hG : Good c) (hbl : c.bars.length ≤ 1000000) : Pure Try.prog 51 [encC c] (pairs (exactP c)) [] := by
  have hmany := hG.many
  have hlo := hG.lo
  have hhi := hG.hi
  have hzl : (zerosL c).length = c.people.toNat := (zeros_ok c).len
  have hpr := place_all c hG c.sizes.length (List.replicate c.sizes.length ((0 : Int), (0 : Int))) (zerosL c) [] 9223372036854775807 (Nat.le_refl _) ⟨by simp, zeros_ok c, fun x hx => by have := zeros_rng c x hx; omega, by simp, by omega, by omega⟩
  rw [show ((c.sizes.length - c.sizes.length : Nat) : Int) = 0 by omega] at hpr
  have hres : (exG c c.sizes.length (List.replicate c.sizes.length ((0 : Int), (0 : Int))) (zerosL c) ([], 9223372036854775807)).2.1 = exactP c := by
    rw [(exG_exF c.sizes.length (List.replicate c.sizes.length ((0 : Int), (0 : Int))) (zerosL c) ([], 9223372036854775807) (Nat.le_refl _) (by simp)).2.2, Nat.sub_self, List.take_zero, exact_eq hG]
    rfl
  generalize hNe : (List.replicate c.sizes.length ((0 : Int), (0 : Int))) = N0 at hpr hres
  generalize hZe : zerosL c = Z0 at hpr hres hzl
  refine Pure.intro (ts := [2]) Try.func51 (by kernel_rfl) rfl rfl rfl (Nat.le_of_ble_eq_true rfl) ?_ ?_
  · simp [pure_case, encI, PV.pure, pureL]
  refine sZ [1] (fun P S K => XvBox S.nx (S.get 0) (fun r0 ef0 => K ⟨[(1, r0)], (Eff.hp ef0 S.nx S.hp), (S.nx + ef0.add.length), S.gh⟩)) fun K hK => ?_
  repeat' (first | (refine hK _ ?_; clear hK K) | refine And.intro ?_ ?_ | exact cl | (refine st ?_; try simp only [encC, pairs, nats]) | simp only [encC, pairs, nats])
  all_goals
  refine sZ [1, 3] (fun P S K => XvLoad P 38 (M S.hp S.nx) (S.get 1) (fun r0 _ => XvFnIV P (M S.hp S.nx) (.fn 46 []) [r0] (fun r1 ef1 => XvAlloc P 82 (S.nx + ef1.add.length) (fun r2 ef2 => XvStore P 82 (M (Eff.hp ef2 (S.nx + ef1.add.length) (Eff.hp ef1 S.nx S.hp)) ((S.nx + ef1.add.length) + ef2.add.length)) r2 r1 (fun r3 ef3 => K ⟨[(1, S.get 1), (3, r2)], (Eff.hp ef3 ((S.nx + ef1.add.length) + ef2.add.length) (Eff.hp ef2 (S.nx + ef1.add.length) (Eff.hp ef1 S.nx S.hp))), (((S.nx + ef1.add.length) + ef2.add.length) + ef3.add.length), S.gh⟩))))) fun K hK => ?_
  repeat' (first | (refine hK _ ?_; clear hK K) | refine And.intro ?_ ?_ | exact cl | refine .inl ⟨_, _, open_pure c hG.five (by omega), ?_⟩ | refine .inr (vProc.wholeS [0, 1, 2, 3, 4, 5, 6, 7, 8] [(0, ⟨1, [.ob 7 2 0 c.sizes.length]⟩), (1, ⟨1, [.ob 8 1 0 c.people.toNat]⟩), (2, ⟨1, [encI (exG c c.sizes.length N0 Z0 ([], 9223372036854775807)).2.2]⟩), (3, ⟨1, [pairs (exG c c.sizes.length N0 Z0 ([], 9223372036854775807)).2.1]⟩), (4, ⟨3, [encC c]⟩), (5, ⟨1, [nats (opens c)]⟩), (6, ⟨1, [.fn 71 [.ptr 0 1 0 0, .ptr 1 1 0 0, .ptr 2 1 0 0, .ptr 3 1 0 0, .ptr 4 3 0 0, .ptr 5 1 0 0, .ptr 6 1 0 0]]⟩), (7, ⟨2, (exG c c.sizes.length N0 Z0 ([], 9223372036854775807)).1.map encP⟩), (8, ⟨1, Z0.map encI⟩)] hpr (by decide) rfl (by simp [-List.map_map, -List.map_set, sealed, PV.ren, renL, rmap, pmap, procSet, procDel, AO.ren, encC, pairs, nats, ints, encI, renL_encP, renL_encI, renL_encN, map_ren_encP, map_ren_encI, map_ren_encN, St.obj, lk]) ho9 rfl (by simp [-List.map_map, -List.map_set, sealed, PV.ren, renL, rmap, pmap, procSet, procDel, AO.ren, encC, pairs, nats, ints, encI, renL_encP, renL_encI, renL_encN, map_ren_encP, map_ren_encI, map_ren_encN, St.obj, lk]) rfl ?_) | (refine st ?_; try simp only [encC, pairs, nats]) | simp only [encC, pairs, nats])
  all_goals
  refine sZ [1, 3, 4] (fun P S K => XvFieldAddr P 38 1 (S.get 1) (fun r0 _ => XvLoad P 3 (M S.hp S.nx) r0 (fun r1 _ => XvMake P 22 (M S.hp S.nx) r1 r1 (fun r2 ef2 => XvAlloc P 22 (S.nx + ef2.add.length) (fun r3 ef3 => XvStore P 22 (M (Eff.hp ef3 (S.nx + ef2.add.length) (Eff.hp ef2 S.nx S.hp)) ((S.nx + ef2.add.length) + ef3.add.length)) r3 r2 (fun r4 ef4 => K ⟨[(1, S.get 1), (3, S.get 3), (4, r3)], (Eff.hp ef4 ((S.nx + ef2.add.length) + ef3.add.length) (Eff.hp ef3 (S.nx + ef2.add.length) (Eff.hp ef2 S.nx S.hp))), (((S.nx + ef2.add.length) + ef3.add.length) + ef4.add.length), S.gh⟩)))))) fun K hK => ?_
  repeat' (first | (refine hK _ ?_; clear hK K) | ((first | refine xG_intro (fun hg => ?_) (fun hg => ?_) | refine fun (hg : (_ : Prop)) => ?_) <;> ((try simp only [BQ] at hg); try (exfalso; omega))) | refine And.intro ?_ ?_ | exact cl | refine one_take ?_ _ | refine one_drop ?_ _ | (refine st ?_; try simp only [encC, pairs, nats]) | simp only [encC, pairs, nats])
  rw [rowsZ, hZe]
  all_goals
  refine sZ [1, 3, 4, 5] (fun P S K => XvFieldAddr P 38 0 (S.get 1) (fun r0 _ => XvLoad P 22 (M S.hp S.nx) r0 (fun r1 _ => XvLen P 22 r1 (fun r2 _ => XvMake P 23 (M S.hp S.nx) r2 r2 (fun r3 ef3 => XvAlloc P 23 (S.nx + ef3.add.length) (fun r4 ef4 => XvStore P 23 (M (Eff.hp ef4 (S.nx + ef3.add.length) (Eff.hp ef3 S.nx S.hp)) ((S.nx + ef3.add.length) + ef4.add.length)) r4 r3 (fun r5 ef5 => K ⟨[(1, S.get 1), (3, S.get 3), (4, S.get 4), (5, r4)], (Eff.hp ef5 ((S.nx + ef3.add.length) + ef4.add.length) (Eff.hp ef4 (S.nx + ef3.add.length) (Eff.hp ef3 S.nx S.hp))), (((S.nx + ef3.add.length) + ef4.add.length) + ef5.add.length), S.gh⟩))))))) fun K hK => ?_
  repeat' (first | (refine hK _ ?_; clear hK K) | ((first | refine xG_intro (fun hg => ?_) (fun hg => ?_) | refine fun (hg : (_ : Prop)) => ?_) <;> ((try simp only [BQ] at hg); try (exfalso; omega))) | refine And.intro ?_ ?_ | exact cl | refine one_take ?_ _ | refine one_drop ?_ _ | (refine st ?_; try simp only [encC, pairs, nats]) | simp only [encC, pairs, nats])
  rw [rowsP, hNe]
  all_goals
  refine sZ [1, 3, 4, 5, 6] (fun P S K => XvAlloc P 23 S.nx (fun r0 ef0 => K ⟨[(1, S.get 1), (3, S.get 3), (4, S.get 4), (5, S.get 5), (6, r0)], (Eff.hp ef0 S.nx S.hp), (S.nx + ef0.add.length), S.gh⟩)) fun K hK => ?_
  repeat' (first | (refine hK _ ?_; clear hK K) | refine And.intro ?_ ?_ | exact cl | (refine st ?_; try simp only [encC, pairs, nats]) | simp only [encC, pairs, nats])
  refine Tri.nilE 6 0 2 1 _ rfl rfl ?_
  all_goals
  refine sZ [1, 3, 4, 5, 6, 7] (fun P S K => XvAlloc P 3 S.nx (fun r0 ef0 => XvStore P 3 (M (Eff.hp ef0 S.nx S.hp) (S.nx + ef0.add.length)) r0 (.atom (.int .i64 9223372036854775807)) (fun r1 ef1 => K ⟨[(1, S.get 1), (3, S.get 3), (4, S.get 4), (5, S.get 5), (6, S.get 6), (7, r0)], (Eff.hp ef1 (S.nx + ef0.add.length) (Eff.hp ef0 S.nx S.hp)), ((S.nx + ef0.add.length) + ef1.add.length), S.gh⟩))) fun K hK => ?_
  repeat' (first | (refine hK _ ?_; clear hK K) | refine And.intro ?_ ?_ | exact cl | (refine st ?_; try simp only [encC, pairs, nats]) | simp only [encC, pairs, nats])
  all_goals
  refine sZ [1, 3, 4, 5, 6, 7, 8] (fun P S K => XvAlloc P 106 S.nx (fun r0 ef0 => K ⟨[(1, S.get 1), (3, S.get 3), (4, S.get 4), (5, S.get 5), (6, S.get 6), (7, S.get 7), (8, r0)], (Eff.hp ef0 S.nx S.hp), (S.nx + ef0.add.length), S.gh⟩)) fun K hK => ?_
  repeat' (first | (refine hK _ ?_; clear hK K) | refine And.intro ?_ ?_ | exact cl | (refine st ?_; try simp only [encC, pairs, nats]) | simp only [encC, pairs, nats])
  all_goals
  refine Tri.cut (α := Unit) (fun ⟨⟩ => ⟨[(6, .ptr 3 1 0 0), (8, .ptr 6 1 0 0)], [(0, some ⟨1, [.ob 7 2 0 c.sizes.length]⟩), (1, some ⟨1, [.ob 8 1 0 c.people.toNat]⟩), (2, some ⟨1, [encI 9223372036854775807]⟩), (3, some ⟨1, [pairs ([] : List (Int × Int))]⟩), (4, some ⟨3, [encC c]⟩), (5, some ⟨1, [nats (opens c)]⟩), (6, some ⟨1, [.fn 71 [.ptr 0 1 0 0, .ptr 1 1 0 0, .ptr 2 1 0 0, .ptr 3 1 0 0, .ptr 4 3 0 0, .ptr 5 1 0 0, .ptr 6 1 0 0]]⟩), (7, some ⟨2, N0.map encP⟩), (8, some ⟨1, Z0.map encI⟩)], 9, []⟩) ?_ ?_
  ·skip
   refine rZ [6, 8] (fun P S K => XvMakeFV (.func 71) [] [(S.get 5), (S.get 4), (S.get 7), (S.get 6), (S.get 1), (S.get 3), (S.get 8)] (fun r0 _ => XvStore P 106 (M S.hp S.nx) (S.get 8) r0 (fun r1 ef1 => K ⟨[(6, S.get 6), (8, S.get 8)], (Eff.hp ef1 S.nx S.hp), (S.nx + ef1.add.length), S.gh⟩))) fun K hK => ?_
   repeat' (first | (refine hK _ ?_; clear hK K) | ((first | refine xG_intro (fun hg => ?_) (fun hg => ?_) | refine fun (hg : (_ : Prop)) => ?_) <;> ((try simp only [BQ] at hg); try (exfalso; omega))) | refine And.intro ?_ ?_ | exact cl | refine one_take ?_ _ | refine one_drop ?_ _ | (refine st ?_; try simp only [encC, pairs, nats]) | simp only [encC, pairs, nats])
   all_goals
   refine ⟨(), [5, 3, 7, 6, 0, 1, 8, 4, 2], ?_⟩
   exact leqB21
  ·rintro ⟨⟩
   refine sZ [6] (fun P S K => XvLoad P 106 (M S.hp S.nx) (S.get 8) (fun r0 _ => XvFnIV P (M S.hp S.nx) r0 [(.atom (.int .i64 0))] (fun r1 ef1 => K ⟨[(6, S.get 6)], (Eff.hp ef1 S.nx S.hp), (S.nx + ef1.add.length), S.gh⟩))) fun K hK => ?_
   repeat' (first | (refine hK _ ?_; clear hK K) | refine And.intro ?_ ?_ | exact cl | refine .inl ⟨_, _, open_pure c hG.five (by omega), ?_⟩ | refine .inr (vProc.wholeS [0, 1, 2, 3, 4, 5, 6, 7, 8] [(0, ⟨1, [.ob 7 2 0 c.sizes.length]⟩), (1, ⟨1, [.ob 8 1 0 c.people.toNat]⟩), (2, ⟨1, [encI (exG c c.sizes.length N0 Z0 ([], 9223372036854775807)).2.2]⟩), (3, ⟨1, [pairs (exG c c.sizes.length N0 Z0 ([], 9223372036854775807)).2.1]⟩), (4, ⟨3, [encC c]⟩), (5, ⟨1, [nats (opens c)]⟩), (6, ⟨1, [.fn 71 [.ptr 0 1 0 0, .ptr 1 1 0 0, .ptr 2 1 0 0, .ptr 3 1 0 0, .ptr 4 3 0 0, .ptr 5 1 0 0, .ptr 6 1 0 0]]⟩), (7, ⟨2, (exG c c.sizes.length N0 Z0 ([], 9223372036854775807)).1.map encP⟩), (8, ⟨1, Z0.map encI⟩)] hpr (by decide) rfl (by simp [-List.map_map, -List.map_set, sealed, PV.ren, renL, rmap, pmap, procSet, procDel, AO.ren, encC, pairs, nats, ints, encI, renL_encP, renL_encI, renL_encN, map_ren_encP, map_ren_encI, map_ren_encN, St.obj, lk]) ho9 rfl (by simp [-List.map_map, -List.map_set, sealed, PV.ren, renL, rmap, pmap, procSet, procDel, AO.ren, encC, pairs, nats, ints, encI, renL_encP, renL_encI, renL_encN, map_ren_encP, map_ren_encI, map_ren_encN, St.obj, lk]) rfl ?_) | (refine st ?_; try simp only [encC, pairs, nats]) | simp only [encC, pairs, nats])
   all_goals
   refine sZ [2] (fun P S K => XvLoad P 23 (M S.hp S.nx) (S.get 6) (fun r0 _ => K ⟨[(2, r0)], S.hp, S.nx, S.gh⟩)) fun K hK => ?_
   repeat' (first | (refine hK _ ?_; clear hK K) | refine And.intro ?_ ?_ | exact cl | (refine st ?_; try simp only [encC, pairs, nats]) | simp only [encC, pairs, nats])
   all_goals
   refine Tri.ret ?_
   show ResOk _ _ _ _
   rw [hres]
   exact ResOk.frz 5 lstB23 lpvB20
theorem leqB50 {p : Prop} (h : p := by (refine ⟨4, ?_, ?_, rfl, by simp, rfl, fun _ h _ => absurd h (Nat.not_lt_zero _)⟩ <;> (simp only [List.forall_mem_cons]; repeat' (first | refine And.intro ?_ ?_ | (intro p hp; exact absurd hp List.not_mem_nil) | rfl | exact sp (pure_case _) | exact sp (pure_pairs _) | exact sp (pure_cert _) | exact (sealed_pure _ _ _ (pure_ints _)).trans (ren_ints _ _).symm | exact (sealed_pure _ _ _ (pure_strs _)).trans (ren_strs _ _).symm | exact sp (by assumption) | (intro o ho; cases ho; refine ⟨by decide, ?_⟩; first | (refine LeqS.row rfl ?_ ?_; (next => (first | rfl | (simp only [List.map_append, List.map_cons, List.map_nil, List.append_nil, List.nil_append, List.append_assoc, List.cons_append, encI, encS, ints, strs]; done) | (simp [encI, encS, ints, strs, encP]; done))); (next => (first | rfl | exact pureL_encI _ | exact pureL_encS _ | exact pureL_ints _ | exact pureL_strs _ | exact pureL_encP _ | (simp [pureL_append, pureL_encI, pureL_encS, pureL_ints, pureL_strs, pureL, PV.pure, pure_ints, pure_strs, pure_case, pureL_encP, pure_pairs, pure_cert]; done))); done) | refine ⟨_, rfl, rfl, ?_⟩) | (simp [St.born, St.known, retV, St.get, St.obj, lk, sealed, PV.ren, renL, rmap, AO.ren, ints, strs, encI, encS, map_sealed_encI, map_sealed_encS, map_sealed_ints, map_sealed_strs, map_ren_encI, map_ren_encS, map_ren_ints, map_ren_strs, renL_encI, renL_encS, renL_ints, renL_strs, ren_case, encC, pairs, renL_encP, map_sealed_encP, map_ren_encP, encP, take_map_len, encCert] <;> omega)))); first | done | fail) : p := h
theorem findP_small {c : CaseD} (hv : validC c = 0) (h : c.sizes.length ≤ 6) : exactP c = findP c := by
  unfold findP; rw [if_neg (by omega), if_pos h]; rfl
theorem findP_large {c : CaseD} (hv : validC c = 0) (h : ¬ c.sizes.length ≤ 6) : quickS c = findP c := by
  unfold findP; rw [if_neg (by omega), if_neg h]
theorem find_loads {c : CaseD} (hv : validC c = 0) : loadsE c (findP c) = 0 := by
  have hG := valid_good hv
  have hm := hG.many
  by_cases h : c.sizes.length ≤ 6
  · rw [← findP_small hv h]
    have hf := searchF_found (c := c) c.sizes.length (zerosL c) 1048576 (Nat.le_refl _) (search_good hG (by omega))
    rw [Nat.sub_self] at hf
    exact (fits_loads hG hv hf.1 hf.2.1).1
  · rw [← findP_large hv h]
    exact (fits_loads hG hv (quick_fits hG).1 (quick_fits hG).2).1
theorem aFind_pure (c : CaseD) (hc : Held c) (ht : validC c = 0 → Tail c) : Pure Try.prog 22 [encC c] (findR c) [] := by
  have hsl := hc.sizes
  have hbl := hc.bars
  refine Pure.introR (rv := [.tmp 2, .tmp 3, .cell 4 47, .tmp 5]) Try.func22 (by kernel_rfl) rfl rfl rfl (Nat.le_of_ble_eq_true rfl) ?_ ?_
  · simp [pure_case, encI, PV.pure, pureL]
  refine sZ [1, 4] (fun P S K => XvBox S.nx (S.get 0) (fun r0 ef0 => XvAlloc P 47 (S.nx + ef0.add.length) (fun r3 ef3 => K ⟨[(1, r0), (4, r3)], (Eff.hp ef3 (S.nx + ef0.add.length) (Eff.hp ef0 S.nx S.hp)), ((S.nx + ef0.add.length) + ef3.add.length), S.gh⟩))) fun K hK => ?_
  repeat' (first | (refine hK _ ?_; clear hK K) | refine And.intro ?_ ?_ | exact cl | exact flat_encP _ | (refine st ?_; try simp only [encC, pairs, encCert, zeroCert, dec_self]) | simp only [encC, pairs, encCert, zeroCert, dec_self])
  all_goals
  refine Tri.seq ?_
  refine sZ [1, 4, 6] (fun P S K => XvLoad P 38 (M S.hp S.nx) (S.get 1) (fun r0 _ => XvFnIV P (M S.hp S.nx) (.fn 15 []) [r0] (fun r1 ef1 => K ⟨[(1, S.get 1), (4, S.get 4), (6, r1)], (Eff.hp ef1 S.nx S.hp), (S.nx + ef1.add.length), S.gh⟩))) fun K hK => ?_
  repeat' (first | (refine hK _ ?_; clear hK K) | refine And.intro ?_ ?_ | exact cl | exact flat_encP _ | refine one_take ?_ _ | refine one_drop ?_ _ | refine .inl ⟨_, _, aValid_pure c hc, ?_⟩ | refine .inl ⟨_, _, hLo, ?_⟩ | refine .inl ⟨_, _, hMax, ?_⟩ | (refine st ?_; try simp only [encC, pairs, encCert, zeroCert, dec_self]) | simp only [encC, pairs, encCert, zeroCert, dec_self])
  all_goals
  refine sZ [1, 4, 6, 13] (fun P S K => XvBinOV P .neq 32 (.const (.int .i64 0)) (S.get 6) (.atom (.int .i64 0)) (fun r1 _ => K ⟨[(1, S.get 1), (4, S.get 4), (6, S.get 6), (13, r1)], S.hp, S.nx, S.gh⟩)) fun K hK => ?_
  repeat' (first | (refine hK _ ?_; clear hK K) | refine And.intro ?_ ?_ | exact cl | exact flat_encP _ | (refine st ?_; try simp only [encC, pairs, encCert, zeroCert, dec_self]) | simp only [encC, pairs, encCert, zeroCert, dec_self])
  all_goals
  refine Tri.cond rfl (fun h13 => ?_) (fun h13 => ?_)
  ·try (cases h13; done)
   all_goals (try simp only [CQ] at h13)
   all_goals
   refine sZ [2, 3, 4, 5] (fun P S K => XvBuild P 47 [] (fun r0 _ => XvStore P 47 (M S.hp S.nx) (S.get 4) r0 (fun r4 ef4 => K ⟨[(2, (.atom (.slice none 0 0))), (3, (.atom (.int .i64 0))), (4, S.get 4), (5, (S.get 6))], (Eff.hp ef4 S.nx S.hp), (S.nx + ef4.add.length), S.gh⟩))) fun K hK => ?_
   repeat' (first | (refine hK _ ?_; clear hK K) | refine And.intro ?_ ?_ | exact cl | exact flat_encP _ | (refine st ?_; try simp only [encC, pairs, encCert, zeroCert, dec_self]) | simp only [encC, pairs, encCert, zeroCert, dec_self])
   refine Tri.asSl 2 2 rfl ?_
   refine Tri.nilF 1 0 1 3 _ rfl rfl ?_
   refine Tri.nilF 1 1 1 3 _ rfl rfl ?_
   all_goals
   refine Tri.ret ?_
   show ResR _ _ _ _ _
   have e1 : findP c = [] := if_pos h13
   have e2 : findN c = 0 := if_pos h13
   have e3 : findC c = ⟨[], [], 0⟩ := if_pos h13
   refine ResR.cells (PV.sl 2 []) (encI 0) [.agg [.sl 1 [], .sl 1 [], encI 0], encI (validC c)] rfl ?_ (pure_findR c)
   unfold findR; rw [e1, e2, e3]; rfl
  ·try (cases h13; done)
   all_goals (try simp only [CQ] at h13)
   all_goals
   refine Tri.skip ?_
   have hv : validC c = 0 := by omega
   have hG := valid_good hv
   have hlo := hG.lo
   have hhi := hG.hi
   have hmany := hG.many
   have hpl := findP_len c
   have hle := find_loads hv
   have hLo := aLoads_pure c (findP c) hc (by omega)
   rw [hle] at hLo
   have hrl : (loadsR c (findP c)).length = c.people.toNat := by unfold loadsR; rw [if_pos hle, loadsG_len]
   have hMax := Max_pure (loadsR c (findP c)) (by omega) (by omega)
   rw [maxFrom_all (by omega) (fun x hx => (loadsR_mem hG (by omega) x hx).1)] at hMax
   refine sZ [1, 4, 7] (fun P S K => XvLoad P 38 (M S.hp S.nx) (S.get 1) (fun r0 _ => XvFnIV P (M S.hp S.nx) (.fn 50 []) [r0] (fun r1 ef1 => K ⟨[(1, S.get 1), (4, S.get 4), (7, r1)], (Eff.hp ef1 S.nx S.hp), (S.nx + ef1.add.length), S.gh⟩))) fun K hK => ?_
   repeat' (first | (refine hK _ ?_; clear hK K) | refine And.intro ?_ ?_ | exact cl | exact flat_encP _ | refine one_take ?_ _ | refine one_drop ?_ _ | refine .inl ⟨_, _, aQuick_pure c hG (by omega) (ht hv), ?_⟩ | refine .inl ⟨_, _, hLo, ?_⟩ | refine .inl ⟨_, _, hMax, ?_⟩ | (refine st ?_; try simp only [encC, pairs, encCert, zeroCert, dec_self]) | simp only [encC, pairs, encCert, zeroCert, dec_self])
   all_goals
   refine Tri.cut (α := Unit) (fun ⟨⟩ => ⟨[(1, .ptr 0 3 0 0), (4, .ptr 1 3 0 0), (7, pairs (findP c))], [(0, some ⟨3, [encC c]⟩), (1, some ⟨3, [zeroCert]⟩)], 2, []⟩) ?_ ?_
   ·skip
    refine sZ [1, 4, 7, 21] (fun P S K => XvFieldAddr P 38 0 (S.get 1) (fun r0 _ => XvLoad P 22 (M S.hp S.nx) r0 (fun r1 _ => XvLen P 22 r1 (fun r2 _ => XvBinOV P .leq 3 (.const (.int .i64 6)) r2 (.atom (.int .i64 6)) (fun r3 _ => K ⟨[(1, S.get 1), (4, S.get 4), (7, S.get 7), (21, r3)], S.hp, S.nx, S.gh⟩))))) fun K hK => ?_
    repeat' (first | (refine hK _ ?_; clear hK K) | refine And.intro ?_ ?_ | exact cl | exact flat_encP _ | refine one_take ?_ _ | refine one_drop ?_ _ | (refine st ?_; try simp only [encC, pairs, encCert, zeroCert, dec_self]) | simp only [encC, pairs, encCert, zeroCert, dec_self])
    all_goals
    refine Tri.cond rfl (fun h21 => ?_) (fun h21 => ?_)
    ·try (cases h21; done)
     all_goals (try simp only [CQ] at h21)
     all_goals
     refine rZ [1, 4, 7] (fun P S K => XvLoad P 38 (M S.hp S.nx) (S.get 1) (fun r0 _ => XvFnIV P (M S.hp S.nx) (.fn 51 []) [r0] (fun r1 ef1 => K ⟨[(1, S.get 1), (4, S.get 4), (7, r1)], (Eff.hp ef1 S.nx S.hp), (S.nx + ef1.add.length), S.gh⟩))) fun K hK => ?_
     repeat' (first | (refine hK _ ?_; clear hK K) | refine And.intro ?_ ?_ | exact cl | exact flat_encP _ | refine one_take ?_ _ | refine one_drop ?_ _ | refine .inl ⟨_, _, exact_pure c hG (by omega), ?_⟩ | refine .inl ⟨_, _, hLo, ?_⟩ | refine .inl ⟨_, _, hMax, ?_⟩ | (refine st ?_; try simp only [encC, pairs, encCert, zeroCert, dec_self]) | simp only [encC, pairs, encCert, zeroCert, dec_self])
     all_goals
     first | (rw [findP_large hv (by omega)]) | (rw [findP_small hv (by omega)])
     refine ⟨(), [0, 1], ?_⟩
     exact leqB50
    ·try (cases h21; done)
     all_goals (try simp only [CQ] at h21)
     all_goals
     refine Tri.skip ?_
     first | (rw [findP_large hv (by omega)]) | (rw [findP_small hv (by omega)])
     refine ⟨(), [0, 1], ?_⟩
     exact leqB50
   ·rintro ⟨⟩
    refine sZ [1, 4, 7, 8, 9] (fun P S K => XvLoad P 38 (M S.hp S.nx) (S.get 1) (fun r0 _ => XvFnIV P (M S.hp S.nx) (.fn 18 []) [r0, (S.get 7)] (fun r2 ef2 => XvExtract r2 0 (fun r4 _ => XvExtract r2 1 (fun r5 _ => K ⟨[(1, S.get 1), (4, S.get 4), (7, S.get 7), (8, r4), (9, r5)], (Eff.hp ef2 S.nx S.hp), (S.nx + ef2.add.length), S.gh⟩))))) fun K hK => ?_
    repeat' (first | (refine hK _ ?_; clear hK K) | refine And.intro ?_ ?_ | exact cl | exact flat_encP _ | refine one_take ?_ _ | refine one_drop ?_ _ | refine .inl ⟨_, _, hLo, ?_⟩ | refine .inl ⟨_, _, hMax, ?_⟩ | (refine st ?_; try simp only [encC, pairs, encCert, zeroCert, dec_self]) | simp only [encC, pairs, encCert, zeroCert, dec_self])
    all_goals
    refine Tri.seq ?_
    refine sZ [1, 4, 7, 8, 9, 31] (fun P S K => XvBinOV P .neq 32 (.const (.int .i64 0)) (S.get 9) (.atom (.int .i64 0)) (fun r1 _ => K ⟨[(1, S.get 1), (4, S.get 4), (7, S.get 7), (8, S.get 8), (9, S.get 9), (31, r1)], S.hp, S.nx, S.gh⟩)) fun K hK => ?_
    repeat' (first | (refine hK _ ?_; clear hK K) | refine And.intro ?_ ?_ | exact cl | exact flat_encP _ | (refine st ?_; try simp only [encC, pairs, encCert, zeroCert, dec_self]) | simp only [encC, pairs, encCert, zeroCert, dec_self])
    all_goals
    refine Tri.cond rfl (fun h31 => ?_) (fun h31 => ?_)
    ·try (cases h31; done)
     all_goals (try simp only [CQ] at h31)
     all_goals
     refine sZ [2, 3, 4, 5] (fun P S K => XvBuild P 47 [] (fun r0 _ => XvStore P 47 (M S.hp S.nx) (S.get 4) r0 (fun r4 ef4 => K ⟨[(2, (.atom (.slice none 0 0))), (3, (.atom (.int .i64 0))), (4, S.get 4), (5, (S.get 9))], (Eff.hp ef4 S.nx S.hp), (S.nx + ef4.add.length), S.gh⟩))) fun K hK => ?_
     repeat' (first | (refine hK _ ?_; clear hK K) | refine And.intro ?_ ?_ | exact cl | exact flat_encP _ | (refine st ?_; try simp only [encC, pairs, encCert, zeroCert, dec_self]) | simp only [encC, pairs, encCert, zeroCert, dec_self])
     refine Tri.asSl 2 2 rfl ?_
     all_goals
     refine Tri.ret ?_
     show ResR _ _ _ _ _
     done
    ·try (cases h31; done)
     all_goals (try simp only [CQ] at h31)
     all_goals
     refine Tri.skip ?_
     refine sD 9 [2, 3, 4, 5] (fun P GD S K => XvFnV P (M S.hp S.nx) (.fn 52 []) [(S.get 8)] (fun r2 ef2 => XvLoad P 38 (M (Eff.hp ef2 S.nx S.hp) (S.nx + ef2.add.length)) (S.get 1) (fun r3 ef3 => XvFnV P (M (Eff.hp ef2 S.nx S.hp) (S.nx + ef2.add.length)) (.fn 53 []) [r3] (fun r4 ef4 => XvStore P 47 (M (Eff.hp ef4 (S.nx + ef2.add.length) (Eff.hp ef2 S.nx S.hp)) ((S.nx + ef2.add.length) + ef4.add.length)) (S.get 4) r4 (fun r7 ef7 => (trOk S.nx GD [⟨S.nx, 0, [], [], []⟩, ⟨S.nx, 0, [], [], []⟩, (Eff.tr ef2 S.nx), ⟨(S.nx + ef2.add.length), 0, ef3.rd, [], []⟩, (Eff.tr ef4 (S.nx + ef2.add.length)), ⟨((S.nx + ef2.add.length) + ef4.add.length), 0, [], [], []⟩, ⟨((S.nx + ef2.add.length) + ef4.add.length), 0, [], [], []⟩, (Eff.tr ef7 ((S.nx + ef2.add.length) + ef4.add.length)), ⟨(((S.nx + ef2.add.length) + ef4.add.length) + ef7.add.length), 0, [], [], []⟩] = true ∧ K ⟨[(2, (S.get 7)), (3, r2), (4, S.get 4), (5, (.atom (.int .i64 0)))], (Eff.hp ef7 ((S.nx + ef2.add.length) + ef4.add.length) (Eff.hp ef4 (S.nx + ef2.add.length) (Eff.hp ef2 S.nx S.hp))), (((S.nx + ef2.add.length) + ef4.add.length) + ef7.add.length), S.gh⟩)))))) fun K hK => ?_
     repeat' (first | (refine hK _ ?_; clear hK K) | (refine (?_ : trOk _ _ _ = true); kernel_rfl) | refine And.intro ?_ ?_ | exact cl | exact flat_encP _ | refine one_take ?_ _ | refine one_drop ?_ _ | refine .inl ⟨_, _, hLo, ?_⟩ | refine ⟨_, _, hLo, ?_⟩ | refine .inl ⟨_, _, hMax, ?_⟩ | refine ⟨_, _, hMax, ?_⟩ | refine .inl ⟨_, _, aBest_pure c hG (by omega), ?_⟩ | refine ⟨_, _, aBest_pure c hG (by omega), ?_⟩ | (refine st ?_; try simp only [encC, pairs, encCert, zeroCert, dec_self]) | simp only [encC, pairs, encCert, zeroCert, dec_self])
     all_goals
     refine Tri.ret ?_
     show ResR _ _ _ _ _
     have e2 : findN c = greatest (loadsR c (findP c)) := if_neg (by omega)
     have e3 : findC c = bestS c := if_neg (by omega)
     refine ResR.cells (pairs (findP c)) (encI (greatest (loadsR c (findP c)))) [encCert (bestS c), encI 0] rfl ?_ (pure_findR c)
     unfold findR; rw [e2, e3, hv]; rfl
end Go.Proofs.Ytcdeilgijleoaaa
