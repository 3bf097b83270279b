/-
  Plain values of numbers and texts; small rules for the reckoning.
-/
import Derived.Test.YtfnkciboencifaaDoorBTy
import Derived.Test.YtfnkciboencifaaDoorBCnt
set_option linter.all false
namespace Go.Proofs.YtfnkciboencifaaDoor
open Go Go.RowKit
theorem flatB_junk : PV.junk.flatB = true := rfl
theorem flatB_atom (v : Value) : (PV.atom v).flatB = true := rfl
theorem flatB_ob (i sz off len : Nat) : (PV.ob i sz off len).flatB = true := rfl
theorem flatB_ptr (i sz k c : Nat) : (PV.ptr i sz k c).flatB = true := rfl
theorem flatB_agg (l : List PV) : (PV.agg l).flatB = flatL l := by simp only [PV.flatB]
theorem flatB_tup (l : List PV) : (PV.tup l).flatB = flatL l := by simp only [PV.flatB]
theorem flatB_fn (f : FuncId) (l : List PV) : (PV.fn f l).flatB = flatL l := by simp only [PV.flatB]
theorem flatB_sl0 (sz : Nat) : (PV.sl sz []).flatB = true := rfl
theorem flatL_nil : flatL [] = true := rfl
theorem flatL_cons (p : PV) (l : List PV) : flatL (p :: l) = (p.flatB && flatL l) := rfl
def encI (n : Int) : PV := .atom (.int .i64 n)
def encS (s : ByteArray) : PV := .atom (.string s)
def ints (l : List Int) : PV := .sl 1 (l.map encI)
def strs (l : List ByteArray) : PV := .sl 1 (l.map encS)
def li (l : List Int) (i : Nat) : Int := l.getD i 0
def ls (l : List ByteArray) (i : Nat) : ByteArray := l.getD i ByteArray.empty
theorem getD_encI {l : List Int} {k : Nat} (h : k < l.length) : (l.map encI).getD k .junk = encI (li l k) := by
  simp [li, List.getD_eq_getElem?_getD, h]
theorem getD_encS {l : List ByteArray} {k : Nat} (h : k < l.length) : (l.map encS).getD k .junk = encS (ls l k) := by
  simp [ls, List.getD_eq_getElem?_getD, h]
theorem pureL_map {α : Type} (f : α → PV) (h : ∀ x, (f x).pure = true) (l : List α) : pureL (l.map f) = true := by
  rw [pureL_all, List.all_map]; exact List.all_eq_true.2 fun x _ => h x
theorem pure_ints (l : List Int) : (ints l).pure = true := pureL_map encI (fun _ => rfl) l
theorem pure_strs (l : List ByteArray) : (strs l).pure = true := pureL_map encS (fun _ => rfl) l
theorem ren_ints (ρ : Nat → Nat) (l : List Int) : (ints l).ren ρ = ints l := ren_pure ρ _ (pure_ints l)
theorem ren_strs (ρ : Nat → Nat) (l : List ByteArray) : (strs l).ren ρ = strs l := ren_pure ρ _ (pure_strs l)
theorem wrap_id {x : Int} (h0 : -9223372036854775808 ≤ x) (h1 : x ≤ 9223372036854775807) : IntKind.i64.wrap x = x := by rw [IntKind.wrap_i64]; omega
mutual
theorem pure_noOb : ∀ p : PV, p.pure = true → p.noOb = true
  | .junk, _ => rfl
  | .atom _, _ => rfl
  | .agg l, h => by simp only [PV.pure] at h; simp only [PV.noOb, pureL_noObL l h]
  | .tup l, h => by simp only [PV.pure] at h; simp only [PV.noOb, pureL_noObL l h]
  | .sl _ l, _ => rfl
  | .own _ _, h => by cases h
  | .ob _ _ _ _, h => by cases h
  | .ptr _ _ _ _, h => by cases h
  | .fptr _ l _ _, _ => rfl
  | .fn _ l, h => by simp only [PV.pure] at h; simp only [PV.noOb, pureL_noObL l h]
theorem pureL_noObL : ∀ l : List PV, pureL l = true → noObL l = true
  | [], _ => rfl
  | p :: l, h => by simp only [pureL, Bool.and_eq_true] at h; simp only [noObL, pure_noOb p h.1, pureL_noObL l h.2]; rfl
end
theorem sealed_pure (H : Nat → Option AO) (keep : Nat → Bool) (n : Nat) {p : PV} (h : p.pure = true) : sealed H keep n p = p := noOb_sealed H keep n p (pure_noOb p h)
theorem map_sealed_pure (H : Nat → Option AO) (keep : Nat → Bool) (n : Nat) {l : List PV} (h : pureL l = true) : l.map (sealed H keep n) = l := noObL_sealed H keep n l (pureL_noObL l h)
theorem sp {H : Nat → Option AO} {keep : Nat → Bool} {n : Nat} {ρ : Nat → Nat} {p : PV} (h : p.pure = true) : sealed H keep n p = p.ren ρ := (sealed_pure H keep n h).trans (ren_pure ρ p h).symm
theorem map_ren_pure (ρ : Nat → Nat) {l : List PV} (h : pureL l = true) : l.map (PV.ren ρ) = l := by
  have := renL_pure ρ l h
  rwa [renL_map] at this
theorem pureL_append (a b : List PV) : pureL (a ++ b) = (pureL a && pureL b) := by rw [pureL_all, pureL_all, pureL_all, List.all_append]
theorem pureL_encI (l : List Int) : pureL (l.map encI) = true := pureL_map encI (fun _ => rfl) l
theorem pureL_encS (l : List ByteArray) : pureL (l.map encS) = true := pureL_map encS (fun _ => rfl) l
theorem pureL_ints (l : List (List Int)) : pureL (l.map ints) = true := pureL_map ints pure_ints l
theorem pureL_strs (l : List (List ByteArray)) : pureL (l.map strs) = true := pureL_map strs pure_strs l
theorem map_sealed_encI (H : Nat → Option AO) (keep : Nat → Bool) (n : Nat) (l : List Int) : (l.map encI).map (sealed H keep n) = l.map encI := map_sealed_pure H keep n (pureL_encI l)
theorem map_sealed_encS (H : Nat → Option AO) (keep : Nat → Bool) (n : Nat) (l : List ByteArray) : (l.map encS).map (sealed H keep n) = l.map encS := map_sealed_pure H keep n (pureL_encS l)
theorem map_sealed_ints (H : Nat → Option AO) (keep : Nat → Bool) (n : Nat) (l : List (List Int)) : (l.map ints).map (sealed H keep n) = l.map ints := map_sealed_pure H keep n (pureL_ints l)
theorem map_sealed_strs (H : Nat → Option AO) (keep : Nat → Bool) (n : Nat) (l : List (List ByteArray)) : (l.map strs).map (sealed H keep n) = l.map strs := map_sealed_pure H keep n (pureL_strs l)
theorem map_ren_encI (ρ : Nat → Nat) (l : List Int) : (l.map encI).map (PV.ren ρ) = l.map encI := map_ren_pure ρ (pureL_encI l)
theorem map_ren_encS (ρ : Nat → Nat) (l : List ByteArray) : (l.map encS).map (PV.ren ρ) = l.map encS := map_ren_pure ρ (pureL_encS l)
theorem map_ren_ints (ρ : Nat → Nat) (l : List (List Int)) : (l.map ints).map (PV.ren ρ) = l.map ints := map_ren_pure ρ (pureL_ints l)
theorem map_ren_strs (ρ : Nat → Nat) (l : List (List ByteArray)) : (l.map strs).map (PV.ren ρ) = l.map strs := map_ren_pure ρ (pureL_strs l)
theorem renL_encI (ρ : Nat → Nat) (l : List Int) : renL ρ (l.map encI) = l.map encI := renL_pure ρ _ (pureL_encI l)
theorem renL_encS (ρ : Nat → Nat) (l : List ByteArray) : renL ρ (l.map encS) = l.map encS := renL_pure ρ _ (pureL_encS l)
theorem renL_ints (ρ : Nat → Nat) (l : List (List Int)) : renL ρ (l.map ints) = l.map ints := renL_pure ρ _ (pureL_ints l)
theorem renL_strs (ρ : Nat → Nat) (l : List (List ByteArray)) : renL ρ (l.map strs) = l.map strs := renL_pure ρ _ (pureL_strs l)
theorem one_encI (l : List Int) : ((l.map encI).all fun q => q.cells.all PV.one) = true := by rw [List.all_map]; exact List.all_eq_true.2 fun _ _ => rfl
theorem one_encS (l : List ByteArray) : ((l.map encS).all fun q => q.cells.all PV.one) = true := by rw [List.all_map]; exact List.all_eq_true.2 fun _ _ => rfl
theorem one_ints (l : List (List Int)) : ((l.map ints).all fun q => q.cells.all PV.one) = true := by rw [List.all_map]; exact List.all_eq_true.2 fun _ _ => rfl
theorem one_strs (l : List (List ByteArray)) : ((l.map strs).all fun q => q.cells.all PV.one) = true := by rw [List.all_map]; exact List.all_eq_true.2 fun _ _ => rfl
theorem wrap8_id {x : Int} (h0 : 0 ≤ x) (h1 : x ≤ 255) : IntKind.u8.wrap x = x := by rw [IntKind.wrap_u8]; omega
theorem ResOk.one {S : St} {ts : List Nat} {r : PV} {o o' : AO} (i : Nat) (k : Nat) (h0 : S.obj i = some o') (hr : sealed S.obj (fun j => [i].contains j) k (retV S ts) = r.ren (rmap [i] S.nx)) (hs : o'.sz = o.sz)
    (he : o'.els.map (sealed S.obj (fun j => [i].contains j) k) = o.els.map (PV.ren (rmap [i] S.nx))) : ResOk S ts r [o] :=
  ⟨[i], k, rfl, by simp, hr, fun j ob hj => by
    cases j with
    | zero => obtain rfl : o = ob := by simpa using hj
              exact ⟨o', h0, hs, he⟩
    | succ j => simp at hj⟩
theorem ResOk.two {S : St} {ts : List Nat} {r : PV} {o o' u u' : AO} (i j : Nat) (k : Nat) (hij : i ≠ j) (h0 : S.obj i = some o') (h1 : S.obj j = some u') (hr : sealed S.obj (fun x => [i, j].contains x) k (retV S ts) = r.ren (rmap [i, j] S.nx))
    (hs : o'.sz = o.sz) (hs2 : u'.sz = u.sz)
    (he : o'.els.map (sealed S.obj (fun x => [i, j].contains x) k) = o.els.map (PV.ren (rmap [i, j] S.nx))) (he2 : u'.els.map (sealed S.obj (fun x => [i, j].contains x) k) = u.els.map (PV.ren (rmap [i, j] S.nx))) : ResOk S ts r [o, u] :=
  ⟨[i, j], k, rfl, by simp [hij], hr, fun n ob hn => by
    match n with
    | 0 => obtain rfl : o = ob := by simpa using hn
           exact ⟨o', h0, hs, he⟩
    | 1 => obtain rfl : u = ob := by simpa using hn
           exact ⟨u', h1, hs2, he2⟩
    | n + 2 => simp at hn⟩
theorem ResOk.row {S : St} {ts : List Nat} {r : PV} {sz : Nat} {els els' : List PV} (i : Nat) (h0 : S.obj i = some ⟨sz, els⟩) (he : els = els') (hp : pureL els' = true) (hr : sealed S.obj (fun j => [i].contains j) 4 (retV S ts) = r.ren (rmap [i] S.nx)) : ResOk S ts r [⟨sz, els'⟩] := by
  subst he
  exact ResOk.one i 4 h0 hr rfl (by rw [map_sealed_pure _ _ _ hp, map_ren_pure _ hp])
theorem LeqS.row {S : St} {L : List Nat} {i k sz : Nat} {els els' : List PV} (h0 : S.obj (rmap L S.nx i) = some ⟨sz, els⟩) (he : els = els') (hp : pureL els' = true) :
    ∃ o', S.obj (rmap L S.nx i) = some o' ∧ o'.sz = (AO.mk sz els').sz ∧ o'.els.map (sealed S.obj (fun i => L.contains i) k) = (AO.mk sz els').els.map (PV.ren (rmap L S.nx)) :=
  ⟨_, h0, rfl, by subst he; show els.map _ = els.map _; rw [map_sealed_pure _ _ _ hp, map_ren_pure _ hp]⟩
@[congr] theorem Tri.congr {P : Program} {n : Nat} {c : Code} {S S' : St} {Q : Exit → St → Prop} (h : S = S') : Tri P n c S Q = Tri P n c S' Q := by rw [h]
def St.born (S : St) (d sz : Nat) : St := ⟨(d, .ob S.nx sz 0 0) :: S.env, (S.nx, some ⟨sz, []⟩) :: S.hp, S.nx + 1, S.gh⟩
theorem nil_val {D : Nat → Prop} {μ : Nat → Option Nat} {F : Nat → Prop} {w : World} {v : Value} (h : Rep D μ F w (.atom (.slice none 0 0)) v) : v = .slice none 0 0 := by cases h; rfl
theorem Tri.born {P : Program} {n : Nat} {c : Code} {S : St} {Q : Exit → St → Prop} (d sz : Nat) (h : S.get d = .atom (.slice none 0 0)) (ht : Tri P n c (S.born d sz) Q) : Tri P n c S Q := fun w0 F0 D μ F G a w hS => by
  have hn : ¬ D S.nx := fun hd => Nat.lt_irrefl _ (hS.ids _ hd)
  have hold := also_ok (D := D) (μ := μ) (none : Option Nat) hn
  refine ht w0 F0 (also D S.nx) (upd μ S.nx none) F G a w ⟨hS.defers, hS.size, fun s => ?_, ?_, fun i hi => ?_, hS.ghl, fun i hi => ?_⟩
  · show Rep _ _ _ _ ((lk ((d, .ob S.nx sz 0 0) :: S.env) s).getD .junk) _
    unfold lk
    split
    · rename_i hs
      subst hs
      have := hS.env d
      rw [h] at this
      rw [nil_val this]
      exact .obn S.nx sz (.inr rfl) (upd_same ..)
    · exact (hS.env s).stay (Stay.refl _ _) hold (fun _ h => h)
  · have := HeapSim.add hS.heap S.nx hn ⟨sz, []⟩ none (Stay.refl _ _) hS.heap.ext (Nat.le_refl _) rfl (fun b hb => by cases hb) (fun _ _ _ _ _ => rfl)
    have e : (S.born d sz).obj = upd S.obj S.nx (some ⟨sz, []⟩) := by
      funext i
      show (lk ((S.nx, some ⟨sz, []⟩) :: S.hp) i).join = _
      unfold lk upd
      by_cases hi : S.nx = i
      · rw [if_pos hi, if_pos hi.symm]; rfl
      · rw [if_neg hi, if_neg (Ne.symm hi)]; rfl
    rw [e]; exact this
  · rcases hi with hi | rfl
    · exact Nat.lt_succ_of_lt (hS.ids i hi)
    · exact Nat.lt_succ_self _
  · exact (hS.gh i hi).stay (Stay.refl _ _) hold (fun _ h => h)
theorem ResOk.frz {S : St} {ts : List Nat} {r : PV} (k : Nat) (hr : sealed S.obj (fun _ => false) k (retV S ts) = r) (hp : r.pure = true) : ResOk S ts r [] :=
  ⟨[], k, rfl, List.nodup_nil, by rw [ren_pure _ r hp]; exact hr, fun i o hi => by simp at hi⟩
theorem one_take {l : List PV} (h : (l.all fun q => q.cells.all PV.one) = true) (n : Nat) : ((l.take n).all fun q => q.cells.all PV.one) = true := by
  rw [List.all_eq_true] at h ⊢
  exact fun x hx => h x (List.mem_of_mem_take hx)
theorem one_drop {l : List PV} (h : (l.all fun q => q.cells.all PV.one) = true) (n : Nat) : ((l.drop n).all fun q => q.cells.all PV.one) = true := by
  rw [List.all_eq_true] at h ⊢
  exact fun x hx => h x (List.mem_of_mem_drop hx)
@[congr] theorem trOk.congr {nx nx' : Nat} {D : List (List Nat)} {tr tr' : List Tr} (h : nx = nx') (h2 : tr = tr') : trOk nx D tr = trOk nx' D tr' := by rw [h, h2]
/- What stands in a slot, looked up from the newest row on. -/
theorem get_known_hit {S : St} {d : Nat} {p : PV} : (S.known d p).get d = p := by simp [St.known, St.get, lk]
theorem get_known_miss {S : St} {d s : Nat} {p : PV} (h : d ≠ s) : (S.known d p).get s = S.get s := by simp [St.known, St.get, lk, h]
theorem get_born_hit {S : St} {d sz : Nat} : (S.born d sz).get d = .ob S.nx sz 0 0 := by simp [St.born, St.get, lk]
theorem get_born_miss {S : St} {d sz s : Nat} (h : d ≠ s) : (S.born d sz).get s = S.get s := by simp [St.born, St.get, lk, h]
theorem get_mk_hit {i : Nat} {x : PV} {t : List (Nat × PV)} {hp : List (Nat × Option AO)} {nx : Nat} {gh : List PV} : St.get ⟨(i, x) :: t, hp, nx, gh⟩ i = x := by simp [St.get, lk]
theorem get_mk_miss {i s : Nat} {x : PV} {t : List (Nat × PV)} {hp : List (Nat × Option AO)} {nx : Nat} {gh : List PV} (h : i ≠ s) : St.get ⟨(i, x) :: t, hp, nx, gh⟩ s = St.get ⟨t, hp, nx, gh⟩ s := by simp [St.get, lk, h]
theorem get_mk_nil {s : Nat} {hp : List (Nat × Option AO)} {nx : Nat} {gh : List PV} : St.get ⟨[], hp, nx, gh⟩ s = .junk := rfl
/- The reckoning does not look at what stands behind an operation before it has come there. -/
@[congr] theorem xGuard.cong {ops : Array Oper} {S S' : St} {o : Oper} {run skip : St → Prop} (h : S = S') : xGuard ops S o run skip = xGuard ops S' o run skip := by subst h; rfl
@[congr] theorem xOps.cong {P : Program} {ops : Array Oper} {l : List Oper} {S S' : St} {K : St → Prop} (h : S = S') : xOps P ops l S K = xOps P ops l S' K := by subst h; rfl
@[congr] theorem xOpsT.cong {P : Program} {ops : Array Oper} {l : List Oper} {S S' : St} {tr tr' : List Tr} {K : St → List Tr → Prop} (h : S = S') (h2 : tr = tr') : xOpsT P ops l S tr K = xOpsT P ops l S' tr' K := by subst h h2; rfl
@[congr] theorem vop.cong {P : Program} {op : Op} {S S' : St} {K : PV → Eff → Prop} (h : S = S') : vop P op S K = vop P op S' K := by subst h; rfl
@[congr] theorem vLoad.cong {P : Program} {t : TypeId} {S S' : St} {a a' : PV} {K : PV → Eff → Prop} (h : S = S') (h2 : a = a') : vLoad P t S a K = vLoad P t S' a' K := by subst h h2; rfl
@[congr] theorem vStore.cong {P : Program} {t : TypeId} {S S' : St} {a a' v v' : PV} {K : PV → Eff → Prop} (h : S = S') (h2 : a = a') (h3 : v = v') : vStore P t S a v K = vStore P t S' a' v' K := by subst h h2 h3; rfl
@[congr] theorem vFieldAddr.cong {P : Program} {t : TypeId} {f : Nat} {a a' : PV} {K : PV → Eff → Prop} (h : a = a') : vFieldAddr P t f a K = vFieldAddr P t f a' K := by subst h; rfl
@[congr] theorem vField.cong {P : Program} {t : TypeId} {f : Nat} {a a' : PV} {K : PV → Eff → Prop} (h : a = a') : vField P t f a K = vField P t f a' K := by subst h; rfl
@[congr] theorem vIndexAddr.cong {P : Program} {t : TypeId} {a a' i i' : PV} {K : PV → Eff → Prop} (h : a = a') (h2 : i = i') : vIndexAddr P t a i K = vIndexAddr P t a' i' K := by subst h h2; rfl
@[congr] theorem vIndex.cong {P : Program} {t : TypeId} {a a' i i' : PV} {K : PV → Eff → Prop} (h : a = a') (h2 : i = i') : vIndex P t a i K = vIndex P t a' i' K := by subst h h2; rfl
@[congr] theorem vBin.cong {P : Program} {op : BinOp} {t : TypeId} {a a' b b' : PV} {K : PV → Eff → Prop} (h : a = a') (h2 : b = b') : vBin P op t a b K = vBin P op t a' b' K := by subst h h2; rfl
@[congr] theorem vSlice.cong {P : Program} {t : TypeId} {S S' : St} {a a' : PV} {lo hi : Option Operand} {K : PV → Eff → Prop} (h : S = S') (h2 : a = a') : vSlice P t S a lo hi K = vSlice P t S' a' lo hi K := by subst h h2; rfl
@[congr] theorem vBase.cong {S S' : St} {sz sz' : Nat} {a a' : PV} {K : List PV → List Nat → Prop} (h : S = S') (h1 : sz = sz') (h2 : a = a') : vBase S sz a K = vBase S' sz' a' K := by subst h h1 h2; rfl
@[congr] theorem vSrc.cong {S S' : St} {sz sz' : Nat} {a a' : PV} {K : List PV → List Nat → Prop} (h : S = S') (h1 : sz = sz') (h2 : a = a') : vSrc S sz a K = vSrc S' sz' a' K := by subst h h1 h2; rfl
@[congr] theorem vAppend.cong {P : Program} {t : TypeId} {S S' : St} {a a' b b' : PV} {K : PV → Eff → Prop} (h : S = S') (h2 : a = a') (h3 : b = b') : vAppend P t S a b K = vAppend P t S' a' b' K := by subst h h2 h3; rfl
@[congr] theorem vConvert.cong {P : Program} {t t2 : TypeId} {S S' : St} {a a' : PV} {K : PV → Eff → Prop} (h : S = S') (h2 : a = a') : vConvert P t t2 S a K = vConvert P t t2 S' a' K := by subst h h2; rfl
@[congr] theorem vMake.cong {P : Program} {t : TypeId} {S S' : St} {a a' b b' : PV} {K : PV → Eff → Prop} (h : S = S') (h2 : a = a') (h3 : b = b') : vMake P t S a b K = vMake P t S' a' b' K := by subst h h2 h3; rfl
@[congr] theorem vMinMax.cong {mx : Bool} {a a' b b' : PV} {K : PV → Eff → Prop} (h : a = a') (h2 : b = b') : vMinMax mx a b K = vMinMax mx a' b' K := by subst h h2; rfl
@[congr] theorem vLen.cong {P : Program} {t : TypeId} {a a' : PV} {K : PV → Eff → Prop} (h : a = a') : vLen P t a K = vLen P t a' K := by subst h; rfl
@[congr] theorem vopI.cong {P : Program} {op : Op} {S S' : St} {K : PV → Eff → Prop} (h : S = S') : vopI P op S K = vopI P op S' K := by subst h; rfl
@[congr] theorem vFnI.cong {P : Program} {S S' : St} {g g' : PV} {xs : List Operand} {K : PV → Eff → Prop} (h : S = S') (h2 : g = g') : vFnI P S g xs K = vFnI P S' g' xs K := by subst h h2; rfl
@[congr] theorem vProc.cong {P : Program} {S S' : St} {f : FuncId} {vals vals' : List PV} {K : PV → Eff → Prop} (h : S = S') (h2 : vals = vals') : vProc P S f vals K = vProc P S' f vals' K := by subst h h2; rfl
@[congr] theorem vFn.cong {P : Program} {S S' : St} {g g' : PV} {xs : List Operand} {K : PV → Eff → Prop} (h : S = S') (h2 : g = g') : vFn P S g xs K = vFn P S' g' xs K := by subst h h2; rfl
@[congr] theorem vBinO.cong {P : Program} {op : BinOp} {t : TypeId} {S S' : St} {x y : Operand} {K : PV → Eff → Prop} (h : S = S') : vBinO P op t S x y K = vBinO P op t S' x y K := by subst h; rfl
@[congr] theorem vCallO.cong {P : Program} {S S' : St} {c : Callee} {xs : List Operand} {ts : List TypeId} {K : PV → Eff → Prop} (h : S = S') : vCallO P S c xs ts K = vCallO P S' c xs ts K := by subst h; rfl
@[congr] theorem vMakeF.cong {S S' : St} {fn : Fn} {first cap : List Operand} {K : PV → Eff → Prop} (h : S = S') : vMakeF S fn first cap K = vMakeF S' fn first cap K := by subst h; rfl
@[congr] theorem vUn.cong {op : UnOp} {a a' : PV} {K : PV → Eff → Prop} (h : a = a') : vUn op a K = vUn op a' K := by subst h; rfl
theorem li_mem {l : List Int} {k : Nat} (h : k < l.length) : li l k ∈ l := by
  have : li l k = l[k] := by simp [li, List.getD_eq_getElem?_getD, h]
  rw [this]; exact List.getElem_mem h
theorem ls_mem {l : List ByteArray} {k : Nat} (h : k < l.length) : ls l k ∈ l := by
  have : ls l k = l[k] := by simp [ls, List.getD_eq_getElem?_getD, h]
  rw [this]; exact List.getElem_mem h
theorem aI {k : IntKind} {p q : Int} (h : p = q) : PV.atom (.int k p) = .atom (.int k q) := by rw [h]
theorem aS {p q : ByteArray} (h : p = q) : PV.atom (.string p) = .atom (.string q) := by rw [h]
end Go.Proofs.YtfnkciboencifaaDoor
set_option linter.all false
namespace Go.Proofs.YtfnkciboencifaaDoor
open Go Go.RowKit
set_option linter.defProp false
def BQ := And.intro (And.intro Bool.not_true Bool.not_false) (And.intro not_true_eq_false (And.intro (And.intro @decide_eq_true_eq @decide_eq_false_iff_not) (And.intro @Bool.not_eq_true' @Bool.not_eq_false')))
def CQ := And.intro (And.intro @decide_eq_true_eq @decide_eq_false_iff_not) (And.intro (And.intro @Bool.not_eq_true' @Bool.not_eq_false') (And.intro @Bool.and_eq_true @Bool.or_eq_true))
def SD := (And.intro (And.intro (And.intro (And.intro (And.intro @XvLoad_eq @XvStore_eq) (And.intro @XvFieldAddr_eq @XvField_eq)) (And.intro (And.intro @XvIndexAddr_eq @XvIndex_eq) (And.intro @XvBinOV_eq @XvUn_eq))) (And.intro (And.intro (And.intro @XvConvert_eq @XvMake_eq) (And.intro @XvSliceV_eq @XvPick_eq)) (And.intro (And.intro @XvBox_eq @XvAlloc_eq) (And.intro @XvBuild_eq @XvBuildS_eq)))) (And.intro (And.intro (And.intro (And.intro @XvNil_eq @XvExtract_eq) (And.intro @XvMakeFV_eq @XvLen_eq)) (And.intro (And.intro @XvAppend_eq @XvMinMax_eq) (And.intro @XvFnV_eq @XvFnIV_eq))) (And.intro (And.intro (And.intro @Xgq_eq @Xge_eq) (And.intro @get_known_hit @get_known_miss)) (And.intro (And.intro @get_born_hit @get_born_miss) (And.intro @get_mk_hit (And.intro @get_mk_miss @get_mk_nil))))))
attribute [push_cast] gq ge vPick vBox vAlloc vBuild vBuildS vNil vExtract vMakeFV vSliceV bndV vBinOV vFnV vFnIV M pvU xG_tt xG_ff xG_tf xG_ft St.ev St.fin St.obj St.known lk argEnv e0 mk1 rdE Eff.hp Eff.tr addH isNilC nilSl vBin binV vLoad vStore vFieldAddr vField vIndexAddr vIndex vAppend vBase vSrc vConvert vMake vMinMax vLen vUn bnd St.born sealed PV.ren renL noObL PV.noOb flatB_junk flatB_atom flatB_ob flatB_ptr flatB_agg flatB_tup flatB_fn flatB_sl0 flatL_nil flatL_cons Bool.true_or Bool.false_or renL_encI renL_encS renL_ints renL_strs map_ren_encI map_ren_encS map_ren_ints map_ren_strs AO.ren PV.cells PV.part PV.putPart PV.one Value.oneCell' isByte evParts setParts putAll spl thenQ List.map_nil List.map_cons List.nil_append List.cons_append List.append_nil List.length_nil List.length_cons List.length_map List.length_append List.length_take List.length_drop List.length_replicate List.all_cons List.all_nil List.flatMap_nil List.flatMap_cons List.foldl_cons List.foldl_nil List.getElem?_toArray List.getElem?_cons_succ List.getElem?_cons_zero List.getD_cons_zero List.getD_cons_succ List.set_cons_zero List.set_cons_succ List.take_succ_cons List.take_zero List.drop_succ_cons List.drop_zero List.replicate_succ List.replicate_zero List.mem_cons List.not_mem_nil List.forall_mem_cons List.take_nil List.drop_nil Option.isSome_some Option.isSome_none Option.getD_some Option.getD_none Option.join_some Option.bind_some Option.map_some Option.map_none Option.some.injEq Nat.add_zero Nat.zero_add Nat.zero_mul Nat.succ_eq_add_one Int.toNat_natCast Int.toNat_zero Int.toNat_one Int.cast_ofNat_Int if_true if_false ite_true ite_false true_and and_true false_and and_false cond_true cond_false Bool.and_true Bool.true_and Bool.and_self Bool.not_true Bool.not_false forall_const true_implies false_implies ne_eq not_false_eq_true not_true_eq_false and_self or_false or_true false_or true_or implies_true forall_eq Bool.false_eq_true Bool.true_eq_false Bool.not_eq_true forall_eq_or_imp Nat.le_refl decide_true decide_false Nat.lt_add_one Nat.zero_lt_succ Nat.lt_irrefl Nat.le_zero_eq Int.ofNat_le Int.ofNat_lt
attribute [push_cast] tAgg_1 tSize_1 tBytes_1 tElem_1 tStr_1 tInt_1 tAgg_2 tSize_2 tBytes_2 tElem_2 tStr_2 tInt_2 tUnd_2 tzo_2 tAgg_3 tSize_3 tBytes_3 tElem_3 tStr_3 tInt_3 tUnd_3 tzo_3 tAgg_4 tSize_4 tBytes_4 tElem_4 tStr_4 tInt_4 tUnd_4 tBool_4 tzo_4 tAgg_5 tSize_5 tBytes_5 tElem_5 tStr_5 tInt_5 tUnd_5 tzo_5 tAgg_9 tSize_9 tBytes_9 tElem_9 tStr_9 tInt_9 tUnd_9 tzo_9 tAgg_21 tSize_21 tBytes_21 tElem_21 tStr_21 tInt_21 tUnd_21 tzo_21 tAgg_22 tSize_22 tBytes_22 tElem_22 tStr_22 tInt_22 tzo_22 tAgg_25 tSize_25 tBytes_25 tElem_25 tStr_25 tInt_25 tzo_25 tAgg_28 tSize_28 tBytes_28 tElem_28 tStr_28 tInt_28 tzo_28 tAgg_30 tSize_30 tBytes_30 tElem_30 tStr_30 tInt_30 tUnd_30 tzo_30 tAgg_33 tSize_33 tBytes_33 tElem_33 tStr_33 tInt_33 tFld_33_0 tPlace_33_0 tFld_33_1 tPlace_33_1 tFld_33_2 tPlace_33_2 tFld_33_3 tPlace_33_3 tKnown_33 tzo_33 tAgg_35 tSize_35 tBytes_35 tElem_35 tStr_35 tInt_35 tFld_35_0 tPlace_35_0 tFld_35_1 tPlace_35_1 tFld_35_2 tPlace_35_2 tFld_35_3 tPlace_35_3 tKnown_35 tzo_35 tAgg_47 tSize_47 tBytes_47 tElem_47 tStr_47 tInt_47 tzo_47 tAgg_68 tSize_68 tBytes_68 tElem_68 tStr_68 tInt_68 tzo_68 tAgg_74 tSize_74 tBytes_74 tElem_74 tStr_74 tInt_74 tAgg_76 tSize_76 tBytes_76 tElem_76 tStr_76 tInt_76 tArr_76 tPlace_76 tKnown_76 tzo_76 tAgg_100 tSize_100 tBytes_100 tElem_100 tStr_100 tInt_100 tFld_100_0 tPlace_100_0 tFld_100_1 tPlace_100_1 tFld_100_2 tPlace_100_2 tKnown_100 tzo_100 tAgg_104 tSize_104 tBytes_104 tElem_104 tStr_104 tInt_104 tArr_104 tPlace_104 tKnown_104 tzo_104 tAgg_115 tSize_115 tBytes_115 tElem_115 tStr_115 tInt_115 tArr_115 tPlace_115 tKnown_115 tzo_115 tAgg_119 tSize_119 tBytes_119 tElem_119 tStr_119 tInt_119 tzo_119 tAgg_121 tSize_121 tBytes_121 tElem_121 tStr_121 tInt_121 tAgg_129 tSize_129 tBytes_129 tElem_129 tStr_129 tInt_129 tzo_129 tAgg_131 tSize_131 tBytes_131 tElem_131 tStr_131 tInt_131 tFld_131_0 tPlace_131_0 tFld_131_1 tPlace_131_1 tKnown_131 tzo_131 tAgg_132 tSize_132 tBytes_132 tElem_132 tStr_132 tInt_132 tzo_132 tAgg_134 tSize_134 tBytes_134 tElem_134 tStr_134 tInt_134 tFld_134_0 tPlace_134_0 tFld_134_1 tPlace_134_1 tKnown_134 tzo_134 tAgg_142 tSize_142 tBytes_142 tElem_142 tStr_142 tInt_142 tzo_142 tAgg_144 tSize_144 tBytes_144 tElem_144 tStr_144 tInt_144 tArr_144 tPlace_144 tKnown_144 tzo_144 tAgg_146 tSize_146 tBytes_146 tElem_146 tStr_146 tInt_146 tFld_146_0 tPlace_146_0 tFld_146_1 tPlace_146_1 tKnown_146 tzo_146 tAgg_147 tSize_147 tBytes_147 tElem_147 tStr_147 tInt_147 tArr_147 tPlace_147 tKnown_147 tzo_147
theorem cl {p : Prop} (h : p := by first | omega | rfl | exact True.intro | exact one_encI _ | exact one_encS _ | exact one_ints _ | exact one_strs _) : p := h
theorem st {A B : Prop} (g : B) (h : A = B := by simp (maxSteps := 2000000) only [↓SD, push_cast, Nat.reduceAdd, Nat.reduceSub, Nat.reduceMul, Nat.reduceLT, Nat.reduceLeDiff, Nat.reduceEqDiff, Int.reduceToNat, reduceIte, reduceCtorEq, Int.reduceLE, Int.reduceLT, Int.reduceNeg, ints, strs, encI, encS]; exact rfl) : A := h.symm ▸ g
section
variable {P : Program} {n : Nat} {S : St} {Q : Exit → St → Prop}
theorem rZ {id : Nat} {l : List Oper} (live : List Nat) (T : Program → St → (St → Prop) → Prop) (h : ∀ K : St → Prop, (∀ S', Q .normal S' → K S') → T P S K) (hd : dstOk n l = true := by kernel_rfl) (hT : ∀ K, yOps P l.toArray l S (fun S1 => K (S1.pick live)) = T P S K := by intro K; kernel_rfl) :
    Tri P n (.region id l.toArray false) S Q := Tri.regY live (T P) hd hT h
theorem sZ {id : Nat} {l : List Oper} {y : Code} (live : List Nat) (T : Program → St → (St → Prop) → Prop) (h : ∀ K : St → Prop, (∀ S', Tri P n y S' Q → K S') → T P S K) (hd : dstOk n l = true := by kernel_rfl) (hT : ∀ K, yOps P l.toArray l S (fun S1 => K (S1.pick live)) = T P S K := by intro K; kernel_rfl) :
    Tri P n (.seq (.region id l.toArray false) y) S Q := Tri.seqY live (T P) hd hT h
theorem sD {id : Nat} {l : List Oper} {y : Code} (n0 : Nat) (live : List Nat) (T : Program → List (List Nat) → St → (St → Prop) → Prop) (h : ∀ K : St → Prop, (∀ S', Tri P n y S' Q → K S') → T P (growDeps l) S K) (hm : P.follows .mixedOrders = true := by kernel_rfl) (hB : growB l.toArray (growDeps l) n0 = true := by kernel_rfl) (hd : dstOk n l = true := by kernel_rfl)
    (hT : ∀ K, yOpsT P l.toArray (l.take n0) S [] (fun S1 tr => trOk S.nx (growDeps l) tr = true ∧ yOps P l.toArray (l.drop n0) S1 (fun S1 => K (S1.pick live))) = T P (growDeps l) S K := by intro K; kernel_rfl) :
    Tri P n (.seq (.region id l.toArray true) y) S Q := Tri.seqYD n0 live (T P) hm hB hd hT h
theorem rY {id : Nat} {l : List Oper} {S' : St} (live : List Nat) (T : Program → St → (St → Prop) → Prop) (g : Q .normal S') (h : ∀ K : St → Prop, K S' → T P S K := by intro K hK; repeat' (first | refine And.intro ?_ ?_ | exact cl | refine one_take ?_ _ | refine one_drop ?_ _ | refine st ?_ | exact hK)) (hd : dstOk n l = true := by kernel_rfl) (hT : ∀ K, yOps P l.toArray l S (fun S1 => K (S1.pick live)) = T P S K := by intro K; kernel_rfl) :
    Tri P n (.region id l.toArray false) S Q := Tri.regY live (T P) hd hT fun K hK => h K (hK _ g)
theorem sY {id : Nat} {l : List Oper} {y : Code} {S' : St} (live : List Nat) (T : Program → St → (St → Prop) → Prop) (g : Tri P n y S' Q) (h : ∀ K : St → Prop, K S' → T P S K := by intro K hK; repeat' (first | refine And.intro ?_ ?_ | exact cl | refine one_take ?_ _ | refine one_drop ?_ _ | refine st ?_ | exact hK)) (hd : dstOk n l = true := by kernel_rfl) (hT : ∀ K, yOps P l.toArray l S (fun S1 => K (S1.pick live)) = T P S K := by intro K; kernel_rfl) :
    Tri P n (.seq (.region id l.toArray false) y) S Q := Tri.seqY live (T P) hd hT fun K hK => h K (hK _ g)
end
end Go.Proofs.YtfnkciboencifaaDoor
set_option linter.all false
namespace Go.Proofs.YtfnkciboencifaaDoor
open Go Go.RowKit
set_option linter.unusedSimpArgs false
set_option linter.unusedVariables false
set_option maxRecDepth 20000
theorem leqW1 {p : Prop} (h : p := by (refine ⟨4, ?_, ?_, rfl, by simp, rfl, fun _ h _ => absurd h (Nat.not_lt_zero _)⟩ <;> (simp only [List.forall_mem_cons]; repeat' (first | refine And.intro ?_ ?_ | (intro p hp; exact absurd hp List.not_mem_nil) | rfl | exact (sealed_pure _ _ _ (pure_ints _)).trans (ren_ints _ _).symm | exact (sealed_pure _ _ _ (pure_strs _)).trans (ren_strs _ _).symm | exact sp (by assumption) | (intro o ho; cases ho; refine ⟨by decide, ?_⟩; first | (refine LeqS.row rfl ?_ ?_; (next => (first | rfl | (simp only [List.map_append, List.map_cons, List.map_nil, List.append_nil, List.nil_append, List.append_assoc, List.cons_append, encI, encS, ints, strs]; done) | (simp [encI, encS, ints, strs]; done))); (next => (first | rfl | exact pureL_encI _ | exact pureL_encS _ | exact pureL_ints _ | exact pureL_strs _ | (simp [pureL_append, pureL_encI, pureL_encS, pureL_ints, pureL_strs, pureL, PV.pure, pure_ints, pure_strs]; done))); done) | refine ⟨_, rfl, rfl, ?_⟩) | (simp [St.born, St.known, retV, St.get, St.obj, lk, sealed, PV.ren, renL, rmap, AO.ren, ints, strs, encI, encS, map_sealed_encI, map_sealed_encS, map_sealed_ints, map_sealed_strs, map_ren_encI, map_ren_encS, map_ren_ints, map_ren_strs, renL_encI, renL_encS, renL_ints, renL_strs] <;> omega))))) : p := h
theorem lsrW1 {p : Prop} (h : p := by (first | rfl | (simp [St.born, St.known, retV, St.get, St.obj, lk, sealed, PV.ren, renL, rmap, AO.ren, ints, strs, encI, encS, map_sealed_encI, map_sealed_encS, map_sealed_ints, map_sealed_strs, map_ren_encI, map_ren_encS, map_ren_ints, map_ren_strs, renL_encI, renL_encS, renL_ints, renL_strs]; done))) : p := h
theorem lpvW1 {p : Prop} (h : p := by (first | rfl | (simp [pure_ints, pure_strs, PV.pure, pureL, pureL_encI, pureL_encS, pureL_ints, pureL_strs]; done))) : p := h
def around (n most : Int) : Int := (if n < 0 then -(n + 1) else n).tmod most
theorem around_lo {n most : Int} (hm : 0 < most) : 0 ≤ around n most := by
  unfold around; exact Int.tmod_nonneg _ (by split <;> omega)
theorem around_hi {n most : Int} (hm : 0 < most) : around n most < most := by
  unfold around; exact Int.tmod_lt_of_pos _ hm
def atI (l : List Int) (i most : Int) : Int := if i < 0 ∨ (l.length : Int) ≤ i then 0 else around (li l i.toNat) most
def I64 (x : Int) : Prop := -9223372036854775808 ≤ x ∧ x ≤ 9223372036854775807
def Fits (l : List Int) : Prop := (∀ x, x ∈ l → I64 x) ∧ l.length ≤ 9223372036854775807
theorem Around_pure (n most : Int) (h : I64 n) (hm : 0 < most) : Pure Tryd.prog 12 [encI n, encI most] (encI (around n most)) [] := by
  obtain ⟨h1, h2⟩ := h
  refine Pure.intro (ts := [4]) Tryd.func12 (by kernel_rfl) rfl rfl rfl (Nat.le_of_ble_eq_true rfl) ?_ ?_
  · simp [pure_ints, pure_strs, encI, encS, PV.pure, pureL]
  refine sY [0, 1] (fun P S K => K ⟨[(0, S.get 0), (1, S.get 1)], S.hp, S.nx, S.gh⟩) ?_
  all_goals
  refine Tri.cut (α := Unit) (fun ⟨⟩ => ⟨[(0, encI (if n < 0 then -(n + 1) else n)), (1, encI most)], [], 0, []⟩) ?_ ?_
  ·skip
   refine sY [0, 1, 6] (fun P S K => XvBinOV P .lss 3 (.const (.int .i64 0)) (S.get 0) (.atom (.int .i64 0)) (fun r1 _ => K ⟨[(0, S.get 0), (1, S.get 1), (6, r1)], S.hp, S.nx, S.gh⟩)) ?_
   all_goals
   refine Tri.cond rfl (fun h6 => ?_) (fun h6 => ?_)
   ·try (cases h6; done)
    all_goals (try simp only [CQ] at h6)
    all_goals
    refine rY [0, 1] (fun P S K => XvBinOV P .add 3 (.const (.int .i64 1)) (S.get 0) (.atom (.int .i64 1)) (fun r1 _ => XvUn .neg r1 (fun r2 _ => K ⟨[(0, r2), (1, S.get 1)], S.hp, S.nx, S.gh⟩))) ?_
    all_goals try simp (disch := omega) only [wrap_id, wrap8_id]
    all_goals
    first | rw [if_pos h6] | rw [if_neg h6]
    refine ⟨(), [], ?_⟩
    exact leqW1
   ·try (cases h6; done)
    all_goals (try simp only [CQ] at h6)
    all_goals
    refine Tri.skip ?_
    first | rw [if_pos h6] | rw [if_neg h6]
    refine ⟨(), [], ?_⟩
    exact leqW1
  ·rintro ⟨⟩
   refine sY [4] (fun P S K => XvBinOV P .rem 3 (.tmp 11) (S.get 0) (S.get 1) (fun r2 _ => K ⟨[(4, r2)], S.hp, S.nx, S.gh⟩)) ?_
   all_goals
   refine Tri.ret ?_
   show ResOk _ _ _ _
   exact ResOk.val lsrW1 lpvW1
theorem At_pure (l : List Int) (i most : Int) (hl : Fits l) (h1 : I64 i) (hm : 0 < most) :
    Pure Tryd.prog 50 [ints l, encI i, encI most] (encI (atI l i most)) [] := by
  have hll := hl.2
  refine Pure.intro (ts := [6]) Tryd.func50 (by kernel_rfl) rfl rfl rfl (Nat.le_of_ble_eq_true rfl) ?_ ?_
  · simp [pure_ints, pure_strs, encI, encS, PV.pure, pureL]
  refine sY [0, 1, 2] (fun P S K => K ⟨[(0, S.get 0), (1, S.get 1), (2, S.get 2)], S.hp, S.nx, S.gh⟩) ?_
  all_goals
  refine Tri.seq ?_
  refine sZ [0, 1, 2, 14] (fun P S K => XvBinOV P .lss 3 (.const (.int .i64 0)) (S.get 1) (.atom (.int .i64 0)) (fun r1 _ => Xgq r1 false (fun k => k (S.get 1)) (fun g3 r3 => Xgq g3 false (fun k => k (S.get 0)) (fun g4 r4 => Xgq g4 false (fun k => XvLen P 22 r4 (fun r5 _ => k r5)) (fun g5 r5 => Xgq g5 false (fun k => XvBinOV P .geq 3 (.tmp 12) r3 r5 (fun r6 _ => k r6)) (fun g6 r6 => XvPick g6 (.atom (.bool true)) r6 (fun r7 _ => K ⟨[(0, S.get 0), (1, S.get 1), (2, S.get 2), (14, r7)], S.hp, S.nx, S.gh⟩))))))) fun K hK => ?_
  repeat' (first | (refine hK _ ?_; clear hK K) | ((first | refine xG_intro (fun hg => ?_) (fun hg => ?_) | refine fun (hg : (_ : Prop)) => ?_) <;> ((try simp only [BQ] at hg); try (exfalso; omega))) | refine And.intro ?_ ?_ | exact cl | refine one_take ?_ _ | refine one_drop ?_ _ | refine st ?_)
  all_goals
  refine Tri.cond rfl (fun h14 => ?_) (fun h14 => ?_)
  ·try (cases h14; done)
   all_goals (try simp only [CQ] at h14)
   all_goals
   refine sY [6] (fun P S K => K ⟨[(6, (.atom (.int .i64 0)))], S.hp, S.nx, S.gh⟩) ?_
   all_goals
   refine Tri.ret ?_
   show ResOk _ _ _ _
   exact ResOk.val (aI (by unfold atI; rw [if_pos (by omega)])) rfl
  ·try (cases h14; done)
   all_goals (try simp only [CQ] at h14)
   all_goals
   refine Tri.skip ?_
   have hx : i.toNat < l.length := by omega
   refine sZ [6] (fun P S K => XvIndexAddr P 22 (S.get 0) (S.get 1) (fun r2 _ => XvLoad P 3 (M S.hp S.nx) r2 (fun r3 _ => XvFnIV P (M S.hp S.nx) (.fn 12 []) [r3, (S.get 2)] (fun r5 e5 => K ⟨[(6, r5)], (Eff.hp e5 S.nx S.hp), (S.nx + e5.add.length), S.gh⟩)))) fun K hK => ?_
   repeat' (first | (refine hK _ ?_; clear hK K) | ((first | refine xG_intro (fun hg => ?_) (fun hg => ?_) | refine fun (hg : (_ : Prop)) => ?_) <;> ((try simp only [BQ] at hg); try (exfalso; omega))) | refine And.intro ?_ ?_ | exact cl | refine one_take ?_ _ | refine one_drop ?_ _ | refine .inl ⟨_, _, Around_pure _ _ (hl.1 _ (li_mem (by omega))) hm, ?_⟩ | refine ⟨_, _, Around_pure _ _ (hl.1 _ (li_mem (by omega))) hm, ?_⟩ | (refine st ?_; try simp only [getD_encI hx]) | simp only [getD_encI hx])
   all_goals
   refine Tri.ret ?_
   show ResOk _ _ _ _
   exact ResOk.val (aI (by unfold atI; rw [if_neg (by omega)])) rfl
theorem drop_li {l : List Int} {k : Nat} (h : k < l.length) : l.drop k = li l k :: l.drop (k + 1) := by
  have : li l k = l[k] := by simp [li, List.getD_eq_getElem?_getD, h]
  rw [this]; exact List.drop_eq_getElem_cons h
theorem drop_ls {l : List ByteArray} {k : Nat} (h : k < l.length) : l.drop k = ls l k :: l.drop (k + 1) := by
  have : ls l k = l[k] := by simp [ls, List.getD_eq_getElem?_getD, h]
  rw [this]; exact List.drop_eq_getElem_cons h
def lexi : List Int → List Int → Int
  | [], [] => 0
  | [], _ :: _ => -1
  | _ :: _, [] => 1
  | a :: x, b :: y => if a < b then -1 else if b < a then 1 else lexi x y
def cmpI (a b : Int) : Int := if a < b then -1 else if b < a then 1 else 0
end Go.Proofs.YtfnkciboencifaaDoor
set_option linter.all false
namespace Go.Proofs.YtfnkciboencifaaDoor
open Go Go.RowKit
set_option linter.unusedSimpArgs false
set_option linter.unusedVariables false
set_option maxRecDepth 20000
noncomputable def tB (p : Prop) : Bool := @decide p (Classical.propDecidable p)
theorem tB_yes {p : Prop} (h : p) : tB p = true := by unfold tB; exact @decide_eq_true p (Classical.propDecidable p) h
theorem tB_no {p : Prop} (h : ¬ p) : tB p = false := by unfold tB; exact @decide_eq_false p (Classical.propDecidable p) h
theorem tB_iff {p : Prop} : tB p = true ↔ p := ⟨fun h => Classical.byContradiction fun hn => (by rw [tB_no hn] at h; cases h), tB_yes⟩
noncomputable def tI {α : Type} (p : Prop) (a b : α) : α := if tB p then a else b
theorem tI_yes {α : Type} {p : Prop} {a b : α} (h : p) : tI p a b = a := by unfold tI; rw [tB_yes h]; rfl
theorem tI_no {α : Type} {p : Prop} {a b : α} (h : ¬ p) : tI p a b = b := by unfold tI; rw [tB_no h]; rfl
def encB (c : UInt8) : PV := .atom (.int .u8 (c.toNat : Nat))
structure SpecD where
  words : Bool
  skip : List ByteArray
  numbers : Bool
  order : List ByteArray
def encSpec (s : SpecD) : PV := .agg [.atom (.bool s.words), strs s.skip, .atom (.bool s.numbers), strs s.order]
theorem pure_spec (s : SpecD) : (encSpec s).pure = true := by simp [encSpec, PV.pure, pureL, pure_strs]
theorem ren_spec (ρ : Nat → Nat) (s : SpecD) : (encSpec s).ren ρ = encSpec s := ren_pure ρ _ (pure_spec s)
structure Sane (s : SpecD) : Prop where
  skip : s.skip.length ≤ 1000000000
  order : s.order.length ≤ 1000000000
  skips : ∀ x, x ∈ s.skip → x.size ≤ 4294967296
  orders : ∀ x, x ∈ s.order → x.size ≤ 4294967296
theorem Sane.sk {s : SpecD} (h : Sane s) {k : Nat} (hk : k < s.skip.length) : (ls s.skip k).size ≤ 4294967296 := h.skips _ (ls_mem hk)
def isDig (c : UInt8) : Bool := decide (48 ≤ c.toNat ∧ c.toNat ≤ 57)
def SmallP (w : ByteArray) : Prop := 0 < w.size ∧ w.size ≤ 24 ∧ ∀ i, i < w.size → 97 ≤ (byteAt w i).toNat ∧ (byteAt w i).toNat ≤ 122
def AtP (s : SpecD) (c : UInt8) (g i : Nat) : Prop := g < s.order.length ∧ i < (ls s.order g).size ∧ byteAt (ls s.order g) i = c
def FirstP (s : SpecD) (c : UInt8) (g i : Nat) : Prop := AtP s c g i ∧ ∀ g' i', AtP s c g' i' → g < g' ∨ (g = g' ∧ i ≤ i')
open Classical in
noncomputable def grp (s : SpecD) (c : UInt8) : Int × Int := if h : ∃ p : Nat × Nat, FirstP s c p.1 p.2 then (((Classical.choose h).1 : Nat), ((Classical.choose h).2 : Nat)) else (-1, -1)
open Classical in
theorem grp_first {s : SpecD} {c : UInt8} {g i : Nat} (h : FirstP s c g i) : grp s c = ((g : Int), (i : Int)) := by
  have hx : ∃ p : Nat × Nat, FirstP s c p.1 p.2 := ⟨(g, i), h⟩
  unfold grp
  rw [dif_pos hx]
  have h2 := Classical.choose_spec hx
  have a := h.2 _ _ h2.1
  have b := h2.2 _ _ h.1
  have e1 : (Classical.choose hx).1 = g := by omega
  have e2 : (Classical.choose hx).2 = i := by omega
  rw [e1, e2]
open Classical in
theorem grp_none {s : SpecD} {c : UInt8} (h : ∀ g i, ¬ AtP s c g i) : grp s c = (-1, -1) := by
  unfold grp
  rw [dif_neg]
  rintro ⟨p, hp⟩
  exact h _ _ hp.1
end Go.Proofs.YtfnkciboencifaaDoor
set_option linter.all false
namespace Go.Proofs.YtfnkciboencifaaDoor
open Go Go.RowKit
set_option linter.unusedSimpArgs false
set_option linter.unusedVariables false
set_option maxRecDepth 20000
def BadSkip (s : SpecD) : Prop := ∃ k, k < s.skip.length ∧ ¬ SmallP (ls s.skip k)
def BadByte (c : UInt8) : Prop := c.toNat < 33 ∨ 126 < c.toNat
def BadGroup (s : SpecD) (g : Nat) : Prop := (ls s.order g).size = 0 ∨ ∃ i, i < (ls s.order g).size ∧ BadByte (byteAt (ls s.order g) i)
def BadOrder (s : SpecD) : Prop := ∃ g, g < s.order.length ∧ BadGroup s g
def TwiceAt (s : SpecD) (g i : Nat) : Prop := ¬ ((grp s (byteAt (ls s.order g) i)).1 = g ∧ (grp s (byteAt (ls s.order g) i)).2 = i)
def Twice (s : SpecD) : Prop := ∃ g i, g < s.order.length ∧ i < (ls s.order g).size ∧ TwiceAt s g i
noncomputable def validE (s : SpecD) : Int := tI (64 < s.order.length ∨ 16 < s.skip.length) 4 (tI (BadSkip s ∨ BadOrder s) 1 (tI (Twice s) 7 0))
theorem validE_limit {s : SpecD} (h : 64 < s.order.length ∨ 16 < s.skip.length) : validE s = 4 := tI_yes h
theorem validE_bad {s : SpecD} (h : ¬ (64 < s.order.length ∨ 16 < s.skip.length)) (hb : BadSkip s ∨ BadOrder s) : validE s = 1 := (tI_no h).trans (tI_yes hb)
theorem validE_twice {s : SpecD} (h : ¬ (64 < s.order.length ∨ 16 < s.skip.length)) (hb : ¬ (BadSkip s ∨ BadOrder s)) (ht : Twice s) : validE s = 7 := (tI_no h).trans ((tI_no hb).trans (tI_yes ht))
theorem validE_ok {s : SpecD} (h : ¬ (64 < s.order.length ∨ 16 < s.skip.length)) (hb : ¬ (BadSkip s ∨ BadOrder s)) (ht : ¬ Twice s) : validE s = 0 := (tI_no h).trans ((tI_no hb).trans (tI_no ht))
theorem validE_zero {s : SpecD} (h : validE s = 0) : ¬ (64 < s.order.length ∨ 16 < s.skip.length) ∧ ¬ (BadSkip s ∨ BadOrder s) ∧ ¬ Twice s := by
  refine ⟨fun h1 => ?_, fun h1 => ?_, fun h1 => ?_⟩
  · rw [validE_limit h1] at h; cases h
  · by_cases h0 : 64 < s.order.length ∨ 16 < s.skip.length
    · rw [validE_limit h0] at h; cases h
    · rw [validE_bad h0 h1] at h; cases h
  · by_cases h0 : 64 < s.order.length ∨ 16 < s.skip.length
    · rw [validE_limit h0] at h; cases h
    · by_cases h2 : BadSkip s ∨ BadOrder s
      · rw [validE_bad h0 h2] at h; cases h
      · rw [validE_twice h0 h2 h1] at h; cases h
def Before (s : SpecD) (g i : Nat) : Prop := ∀ g' i', (g' < g ∨ (g' = g ∧ i' < i)) → i' < (ls s.order g').size → ¬ TwiceAt s g' i'
def EI (s : SpecD) (e : Int) (g i : Nat) : Prop := (e = 7 ∧ Twice s) ∨ (e = 0 ∧ Before s g i)
theorem EI.next {s : SpecD} {e : Int} {g i : Nat} (h : EI s e g i) (h1 : ¬ TwiceAt s g i) : EI s e g (i + 1) := by
  rcases h with h | ⟨h, hb⟩
  · exact .inl h
  · refine .inr ⟨h, fun g' i' hx hi => ?_⟩
    rcases hx with hx | ⟨rfl, hx⟩
    · exact hb g' i' (.inl hx) hi
    · rcases Nat.lt_succ_iff_lt_or_eq.1 hx with hx | rfl
      · exact hb _ i' (.inr ⟨rfl, hx⟩) hi
      · exact h1
theorem EI.done {s : SpecD} {e : Int} {g : Nat} (h : EI s e g 0) (hg : s.order.length ≤ g) (h1 : ¬ (64 < s.order.length ∨ 16 < s.skip.length)) (h2 : ¬ (BadSkip s ∨ BadOrder s)) : e = validE s := by
  rcases h with ⟨rfl, ht⟩ | ⟨rfl, hb⟩
  · rw [validE_twice h1 h2 ht]
  · rw [validE_ok h1 h2]
    rintro ⟨g', i', a, b, c⟩
    exact hb g' i' (.inl (by omega)) b c
end Go.Proofs.YtfnkciboencifaaDoor
set_option linter.all false
namespace Go.Proofs.YtfnkciboencifaaDoor
open Go Go.RowKit
set_option linter.unusedVariables false
theorem Rep.atomEq {D : Nat → Prop} {μ : Nat → Option Nat} {F : Nat → Prop} {w : World} {u v : Value} (h : Rep D μ F w (.atom u) v) : v = u := by cases h; rfl
theorem ResIs.atom {F : Nat → Prop} {w w' : World} (v : Value) : ResIs F w w' (.atom v) [] v :=
  ⟨fun _ => none, fun _ => False, .atom v, fun i o hi => by simp at hi, fun i b hi => by simp at hi, fun i j b hi => by simp at hi, fun b hb => hb.elim⟩
theorem Pure.atoms {P : Program} {f : FuncId} (args : List Value) (v : Value) (hen : Enters P f) (h : ∀ w, Calls P f args.toArray w fun e w' => e = .returned v ∧ Below w.heap.size w w') : Pure P f (args.map PV.atom) (.atom v) [] := by
  refine ⟨hen, fun D μ F w vs hvs hargs hF => ?_⟩
  have e : vs = args.toArray := by
    refine Array.ext (by simpa using hvs) fun i h1 h2 => ?_
    have hi : i < (args.map PV.atom).length := by simpa using h2
    have := hargs i hi
    rw [List.getElem_map] at this
    have := this.atomEq
    simpa [Array.getD, h1] using this
  rw [e]
  refine (h w).mono fun e w' he => ?_
  obtain ⟨rfl, hb⟩ := he
  exact ⟨v, rfl, hb, ResIs.atom v⟩
def foldS (s : ByteArray) : ByteArray := Elder.foldS s
theorem tokenFold_pure (s : ByteArray) (hs : s.size ≤ 4294967296) : Pure Tryd.prog 85 [encS s] (encS (foldS s)) [] :=
  Pure.atoms [.string s] _ (enters_of Tryd.func85 (by kernel_rfl) rfl) (fun w => Elder.Fold_any s w hs)
def wordsS (s : ByteArray) : List ByteArray := Elder.wordsS s
theorem fields_pure (s : ByteArray) (hs : s.size ≤ 4294967296) : Pure Tryd.prog 83 [encS s, .fn 84 []] (strs (wordsS s)) [] := by
  refine ⟨enters_of Tryd.func83 (by kernel_rfl) rfl, fun D μ F w vs hvs hargs hF => ?_⟩
  have h0 := (hargs 0 (by simp)).atomEq
  have h1 : vs.getD 1 undef = .func (.func 84) #[] #[] := by
    have h := hargs 1 (by simp)
    generalize vs.getD 1 undef = u at h
    simp only [List.getElem_cons_succ, List.getElem_cons_zero] at h
    cases h with
    | fn _ _ cvs hcs _ =>
      have hc0 : cvs = #[] := Array.eq_empty_of_size_eq_zero (by simpa using hcs)
      subst hc0; rfl
  have e : vs = #[.string s, .func (.func 84) #[] #[]] := by
    refine Array.ext (by simpa using hvs) fun i g1 g2 => ?_
    have : i = 0 ∨ i = 1 := by simp at g2; omega
    rcases this with rfl | rfl
    · simpa [Array.getD, g1] using h0
    · simpa [Array.getD, g1] using h1
  rw [e]
  refine (Elder.Fields_any s w hs).mono fun e w' he => ?_
  obtain ⟨A, rfl, hc, hm, hA, hb⟩ := he
  refine ⟨_, rfl, hb, fun _ => none, fun b => b = A ∧ b < w'.heap.size, ?_, fun i o hi => by simp at hi, fun i b hi => by simp at hi, fun i j b hi => by simp at hi, fun b hb' => ⟨.inr (hb'.1 ▸ hA), hb'.2⟩⟩
  by_cases hz : (wordsS s).length = 0
  · have hz' : wordsS s = [] := List.length_eq_zero_iff.1 hz
    show Rep _ _ _ _ (.sl 1 ((wordsS s).map encS)) (.slice (some ⟨A, 0, none⟩) (wordsS s).length (wordsS s).length)
    rw [hz']
    exact .sl0 1 _ 0 (Nat.zero_le _) (fun _ => rfl) (fun x hx => by cases hx; rfl)
  · have hlt : A < w'.heap.size := World.block_lt_of_cell? w' _ (hc 0 (Nat.pos_of_ne_zero hz))
    have := Rep.sl (D := fun i => i < ([] : List AO).length) (μ := fun _ => none) (F := fun b => b = A ∧ b < w'.heap.size) (w := w') 1 ((wordsS s).map encS) A 0 (wordsS s).length (fun j => .string (ls (wordsS s) j)) ⟨rfl, hlt⟩ (by simp) hm
      (fun j hj => by
        have hj' : j < (wordsS s).length := by simpa using hj
        rw [Nat.zero_add]; exact hc j hj') (fun k hk => by simp [encS, PV.cells]) (fun k hk c hcc => by
        have hk' : k < (wordsS s).length := by simpa using hk
        have e0 : ((wordsS s).map encS)[k].cells = [encS (ls (wordsS s) k)] := by
          have : (wordsS s)[k] = ls (wordsS s) k := by simp [ls, List.getD_eq_getElem?_getD, hk']
          simp [encS, PV.cells, this]
        have hc0 : c = 0 := by rw [e0] at hcc; simpa using hcc
        subst hc0
        rw [gl e0 hcc]
        simp only [List.getElem_cons_zero, Nat.mul_one, Nat.add_zero]
        exact Rep.atom _)
    rw [List.length_map] at this
    exact this
end Go.Proofs.YtfnkciboencifaaDoor
