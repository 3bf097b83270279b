/-
  Plain values of numbers and texts; small rules for the reckoning.
-/
import Derived.Test.YtcdeilgijleoaaaNTy
import Derived.Test.YtcdeilgijleoaaaNV14
set_option linter.all false
namespace Go.Proofs.Ytcdeilgijleoaaa
open Go Go.RowKit
theorem flatB_junk : PV.junk.flatB = true := rfl
theorem flatB_atom (v : Value) : (PV.atom v).flatB = true := rfl
theorem flatB_ob (i sz off len : Nat) : (PV.ob i sz off len).flatB = true := rfl
theorem flatB_ptr (i sz k c : Nat) : (PV.ptr i sz k c).flatB = true := rfl
theorem flatB_agg (l : List PV) : (PV.agg l).flatB = flatL l := by simp only [PV.flatB]
theorem flatB_tup (l : List PV) : (PV.tup l).flatB = flatL l := by simp only [PV.flatB]
theorem flatB_fn (f : FuncId) (l : List PV) : (PV.fn f l).flatB = flatL l := by simp only [PV.flatB]
theorem flatB_sl0 (sz : Nat) : (PV.sl sz []).flatB = true := rfl
theorem flatL_nil : flatL [] = true := rfl
theorem flatL_cons (p : PV) (l : List PV) : flatL (p :: l) = (p.flatB && flatL l) := rfl
def encI (n : Int) : PV := .atom (.int .i64 n)
def encS (s : ByteArray) : PV := .atom (.string s)
def ints (l : List Int) : PV := .sl 1 (l.map encI)
def strs (l : List ByteArray) : PV := .sl 1 (l.map encS)
def li (l : List Int) (i : Nat) : Int := l.getD i 0
def ls (l : List ByteArray) (i : Nat) : ByteArray := l.getD i ByteArray.empty
theorem getD_encI {l : List Int} {k : Nat} (h : k < l.length) : (l.map encI).getD k .junk = encI (li l k) := by
  simp [li, List.getD_eq_getElem?_getD, h]
theorem pureL_map {α : Type} (f : α → PV) (h : ∀ x, (f x).pure = true) (l : List α) : pureL (l.map f) = true := by
  rw [pureL_all, List.all_map]; exact List.all_eq_true.2 fun x _ => h x
theorem pure_ints (l : List Int) : (ints l).pure = true := pureL_map encI (fun _ => rfl) l
theorem pure_strs (l : List ByteArray) : (strs l).pure = true := pureL_map encS (fun _ => rfl) l
theorem ren_ints (ρ : Nat → Nat) (l : List Int) : (ints l).ren ρ = ints l := ren_pure ρ _ (pure_ints l)
theorem ren_strs (ρ : Nat → Nat) (l : List ByteArray) : (strs l).ren ρ = strs l := ren_pure ρ _ (pure_strs l)
theorem wrap_id {x : Int} (h0 : -9223372036854775808 ≤ x) (h1 : x ≤ 9223372036854775807) : IntKind.i64.wrap x = x := by rw [IntKind.wrap_i64]; omega
mutual
theorem pure_noOb : ∀ p : PV, p.pure = true → p.noOb = true
  | .junk, _ => rfl
  | .atom _, _ => rfl
  | .agg l, h => by simp only [PV.pure] at h; simp only [PV.noOb, pureL_noObL l h]
  | .tup l, h => by simp only [PV.pure] at h; simp only [PV.noOb, pureL_noObL l h]
  | .sl _ l, _ => rfl
  | .own _ _, h => by cases h
  | .ob _ _ _ _, h => by cases h
  | .ptr _ _ _ _, h => by cases h
  | .fptr _ l _ _, _ => rfl
  | .fn _ l, h => by simp only [PV.pure] at h; simp only [PV.noOb, pureL_noObL l h]
theorem pureL_noObL : ∀ l : List PV, pureL l = true → noObL l = true
  | [], _ => rfl
  | p :: l, h => by simp only [pureL, Bool.and_eq_true] at h; simp only [noObL, pure_noOb p h.1, pureL_noObL l h.2]; rfl
end
theorem sealed_pure (H : Nat → Option AO) (keep : Nat → Bool) (n : Nat) {p : PV} (h : p.pure = true) : sealed H keep n p = p := noOb_sealed H keep n p (pure_noOb p h)
theorem map_sealed_pure (H : Nat → Option AO) (keep : Nat → Bool) (n : Nat) {l : List PV} (h : pureL l = true) : l.map (sealed H keep n) = l := noObL_sealed H keep n l (pureL_noObL l h)
theorem sp {H : Nat → Option AO} {keep : Nat → Bool} {n : Nat} {ρ : Nat → Nat} {p : PV} (h : p.pure = true) : sealed H keep n p = p.ren ρ := (sealed_pure H keep n h).trans (ren_pure ρ p h).symm
theorem map_ren_pure (ρ : Nat → Nat) {l : List PV} (h : pureL l = true) : l.map (PV.ren ρ) = l := by
  have := renL_pure ρ l h
  rwa [renL_map] at this
theorem pureL_append (a b : List PV) : pureL (a ++ b) = (pureL a && pureL b) := by rw [pureL_all, pureL_all, pureL_all, List.all_append]
theorem pureL_encI (l : List Int) : pureL (l.map encI) = true := pureL_map encI (fun _ => rfl) l
theorem pureL_encS (l : List ByteArray) : pureL (l.map encS) = true := pureL_map encS (fun _ => rfl) l
theorem pureL_ints (l : List (List Int)) : pureL (l.map ints) = true := pureL_map ints pure_ints l
theorem pureL_strs (l : List (List ByteArray)) : pureL (l.map strs) = true := pureL_map strs pure_strs l
theorem map_sealed_encI (H : Nat → Option AO) (keep : Nat → Bool) (n : Nat) (l : List Int) : (l.map encI).map (sealed H keep n) = l.map encI := map_sealed_pure H keep n (pureL_encI l)
theorem map_sealed_encS (H : Nat → Option AO) (keep : Nat → Bool) (n : Nat) (l : List ByteArray) : (l.map encS).map (sealed H keep n) = l.map encS := map_sealed_pure H keep n (pureL_encS l)
theorem map_sealed_ints (H : Nat → Option AO) (keep : Nat → Bool) (n : Nat) (l : List (List Int)) : (l.map ints).map (sealed H keep n) = l.map ints := map_sealed_pure H keep n (pureL_ints l)
theorem map_sealed_strs (H : Nat → Option AO) (keep : Nat → Bool) (n : Nat) (l : List (List ByteArray)) : (l.map strs).map (sealed H keep n) = l.map strs := map_sealed_pure H keep n (pureL_strs l)
theorem map_ren_encI (ρ : Nat → Nat) (l : List Int) : (l.map encI).map (PV.ren ρ) = l.map encI := map_ren_pure ρ (pureL_encI l)
theorem map_ren_encS (ρ : Nat → Nat) (l : List ByteArray) : (l.map encS).map (PV.ren ρ) = l.map encS := map_ren_pure ρ (pureL_encS l)
theorem map_ren_ints (ρ : Nat → Nat) (l : List (List Int)) : (l.map ints).map (PV.ren ρ) = l.map ints := map_ren_pure ρ (pureL_ints l)
theorem map_ren_strs (ρ : Nat → Nat) (l : List (List ByteArray)) : (l.map strs).map (PV.ren ρ) = l.map strs := map_ren_pure ρ (pureL_strs l)
theorem renL_encI (ρ : Nat → Nat) (l : List Int) : renL ρ (l.map encI) = l.map encI := renL_pure ρ _ (pureL_encI l)
theorem renL_encS (ρ : Nat → Nat) (l : List ByteArray) : renL ρ (l.map encS) = l.map encS := renL_pure ρ _ (pureL_encS l)
theorem renL_ints (ρ : Nat → Nat) (l : List (List Int)) : renL ρ (l.map ints) = l.map ints := renL_pure ρ _ (pureL_ints l)
theorem renL_strs (ρ : Nat → Nat) (l : List (List ByteArray)) : renL ρ (l.map strs) = l.map strs := renL_pure ρ _ (pureL_strs l)
theorem flat_encI (l : List Int) : (l.map encI).all PV.flatB = true := by rw [List.all_map]; exact List.all_eq_true.2 fun _ _ => rfl
theorem one_encI (l : List Int) : ((l.map encI).all fun q => q.cells.all PV.one) = true := by rw [List.all_map]; exact List.all_eq_true.2 fun _ _ => rfl
theorem one_encS (l : List ByteArray) : ((l.map encS).all fun q => q.cells.all PV.one) = true := by rw [List.all_map]; exact List.all_eq_true.2 fun _ _ => rfl
theorem one_ints (l : List (List Int)) : ((l.map ints).all fun q => q.cells.all PV.one) = true := by rw [List.all_map]; exact List.all_eq_true.2 fun _ _ => rfl
theorem one_strs (l : List (List ByteArray)) : ((l.map strs).all fun q => q.cells.all PV.one) = true := by rw [List.all_map]; exact List.all_eq_true.2 fun _ _ => rfl
theorem wrap8_id {x : Int} (h0 : 0 ≤ x) (h1 : x ≤ 255) : IntKind.u8.wrap x = x := by rw [IntKind.wrap_u8]; omega
theorem ResOk.one {S : St} {ts : List Nat} {r : PV} {o o' : AO} (i : Nat) (k : Nat) (h0 : S.obj i = some o') (hr : sealed S.obj (fun j => [i].contains j) k (retV S ts) = r.ren (rmap [i] S.nx)) (hs : o'.sz = o.sz)
    (he : o'.els.map (sealed S.obj (fun j => [i].contains j) k) = o.els.map (PV.ren (rmap [i] S.nx))) : ResOk S ts r [o] :=
  ⟨[i], k, rfl, by simp, hr, fun j ob hj => by
    cases j with
    | zero => obtain rfl : o = ob := by simpa using hj
              exact ⟨o', h0, hs, he⟩
    | succ j => simp at hj⟩
theorem ResOk.row {S : St} {ts : List Nat} {r : PV} {sz : Nat} {els els' : List PV} (i : Nat) (h0 : S.obj i = some ⟨sz, els⟩) (he : els = els') (hp : pureL els' = true) (hr : sealed S.obj (fun j => [i].contains j) 4 (retV S ts) = r.ren (rmap [i] S.nx)) : ResOk S ts r [⟨sz, els'⟩] := by
  subst he
  exact ResOk.one i 4 h0 hr rfl (by rw [map_sealed_pure _ _ _ hp, map_ren_pure _ hp])
theorem LeqS.row {S : St} {L : List Nat} {i k sz : Nat} {els els' : List PV} (h0 : S.obj (rmap L S.nx i) = some ⟨sz, els⟩) (he : els = els') (hp : pureL els' = true) :
    ∃ o', S.obj (rmap L S.nx i) = some o' ∧ o'.sz = (AO.mk sz els').sz ∧ o'.els.map (sealed S.obj (fun i => L.contains i) k) = (AO.mk sz els').els.map (PV.ren (rmap L S.nx)) :=
  ⟨_, h0, rfl, by subst he; show els.map _ = els.map _; rw [map_sealed_pure _ _ _ hp, map_ren_pure _ hp]⟩
@[congr] theorem Tri.congr {P : Program} {n : Nat} {c : Code} {S S' : St} {Q : Exit → St → Prop} (h : S = S') : Tri P n c S Q = Tri P n c S' Q := by rw [h]
def St.born (S : St) (d sz : Nat) : St := ⟨(d, .ob S.nx sz 0 0) :: S.env, (S.nx, some ⟨sz, []⟩) :: S.hp, S.nx + 1, S.gh⟩
theorem nil_val {D : Nat → Prop} {μ : Nat → Option Nat} {F : Nat → Prop} {w : World} {v : Value} (h : Rep D μ F w (.atom (.slice none 0 0)) v) : v = .slice none 0 0 := by cases h; rfl
theorem Tri.born {P : Program} {n : Nat} {c : Code} {S : St} {Q : Exit → St → Prop} (d sz : Nat) (h : S.get d = .atom (.slice none 0 0)) (ht : Tri P n c (S.born d sz) Q) : Tri P n c S Q := fun w0 F0 D μ F G a w hS => by
  have hn : ¬ D S.nx := fun hd => Nat.lt_irrefl _ (hS.ids _ hd)
  have hold := also_ok (D := D) (μ := μ) (none : Option Nat) hn
  refine ht w0 F0 (also D S.nx) (upd μ S.nx none) F G a w ⟨hS.defers, hS.size, fun s => ?_, ?_, fun i hi => ?_, hS.ghl, fun i hi => ?_⟩
  · show Rep _ _ _ _ ((lk ((d, .ob S.nx sz 0 0) :: S.env) s).getD .junk) _
    unfold lk
    split
    · rename_i hs
      subst hs
      have := hS.env d
      rw [h] at this
      rw [nil_val this]
      exact .obn S.nx sz (.inr rfl) (upd_same ..)
    · exact (hS.env s).stay (Stay.refl _ _) hold (fun _ h => h)
  · have := HeapSim.add hS.heap S.nx hn ⟨sz, []⟩ none (Stay.refl _ _) hS.heap.ext (Nat.le_refl _) rfl (fun b hb => by cases hb) (fun _ _ _ _ _ => rfl)
    have e : (S.born d sz).obj = upd S.obj S.nx (some ⟨sz, []⟩) := by
      funext i
      show (lk ((S.nx, some ⟨sz, []⟩) :: S.hp) i).join = _
      unfold lk upd
      by_cases hi : S.nx = i
      · rw [if_pos hi, if_pos hi.symm]; rfl
      · rw [if_neg hi, if_neg (Ne.symm hi)]; rfl
    rw [e]; exact this
  · rcases hi with hi | rfl
    · exact Nat.lt_succ_of_lt (hS.ids i hi)
    · exact Nat.lt_succ_self _
  · exact (hS.gh i hi).stay (Stay.refl _ _) hold (fun _ h => h)
theorem Tri.asSl {P : Program} {n : Nat} {c : Code} {S : St} {Q : Exit → St → Prop} (d sz : Nat) (h : S.get d = .atom (.slice none 0 0)) (ht : Tri P n c (S.known d (.sl sz [])) Q) : Tri P n c S Q := fun w0 F0 D μ F G a w hS => by
  refine ht w0 F0 D μ F G a w ⟨hS.defers, hS.size, fun s => ?_, hS.heap, hS.ids, hS.ghl, hS.gh⟩
  show Rep _ _ _ _ ((lk ((d, .sl sz []) :: S.env) s).getD .junk) _
  unfold lk
  split
  · rename_i hs
    subst hs
    have := hS.env d
    rw [h] at this
    rw [nil_val this]
    exact .sl0 sz none 0 (by unfold maxLen; omega) (fun _ => rfl) (fun x hx => by cases hx)
  · exact hS.env s
theorem ResOk.frz {S : St} {ts : List Nat} {r : PV} (k : Nat) (hr : sealed S.obj (fun _ => false) k (retV S ts) = r) (hp : r.pure = true) : ResOk S ts r [] :=
  ⟨[], k, rfl, List.nodup_nil, by rw [ren_pure _ r hp]; exact hr, fun i o hi => by simp at hi⟩
theorem take_map_len {α : Type} (f : α → PV) (l : List α) : (l.map f).take l.length = l.map f := by rw [List.take_of_length_le]; simp
theorem seal_row {H : Nat → Option AO} {keep : Nat → Bool} {k i sz n : Nat} {els : List PV} (hi : H i = some ⟨sz, els⟩) (hk : keep i = false) (hn : n = els.length) (hp : pureL els = true) : sealed H keep (k + 1) (.ob i sz 0 n) = .sl sz els := by
  simp only [sealed, hk, hi, hn]
  simp only [Bool.false_eq_true, if_false, Nat.zero_add, Nat.le_refl, and_self, if_true, List.drop_zero, List.take_length, map_sealed_pure _ _ _ hp]
theorem one_take {l : List PV} (h : (l.all fun q => q.cells.all PV.one) = true) (n : Nat) : ((l.take n).all fun q => q.cells.all PV.one) = true := by
  rw [List.all_eq_true] at h ⊢
  exact fun x hx => h x (List.mem_of_mem_take hx)
theorem one_drop {l : List PV} (h : (l.all fun q => q.cells.all PV.one) = true) (n : Nat) : ((l.drop n).all fun q => q.cells.all PV.one) = true := by
  rw [List.all_eq_true] at h ⊢
  exact fun x hx => h x (List.mem_of_mem_drop hx)
theorem toNat_pred {k : Nat} (h : 0 < k) : ((k : Int) - 1).toNat = k - 1 := by omega
@[congr] theorem trOk.congr {nx nx' : Nat} {D : List (List Nat)} {tr tr' : List Tr} (h : nx = nx') (h2 : tr = tr') : trOk nx D tr = trOk nx' D tr' := by rw [h, h2]
/- What stands in a slot, looked up from the newest row on. -/
theorem get_known_hit {S : St} {d : Nat} {p : PV} : (S.known d p).get d = p := by simp [St.known, St.get, lk]
theorem get_known_miss {S : St} {d s : Nat} {p : PV} (h : d ≠ s) : (S.known d p).get s = S.get s := by simp [St.known, St.get, lk, h]
theorem get_born_hit {S : St} {d sz : Nat} : (S.born d sz).get d = .ob S.nx sz 0 0 := by simp [St.born, St.get, lk]
theorem get_born_miss {S : St} {d sz s : Nat} (h : d ≠ s) : (S.born d sz).get s = S.get s := by simp [St.born, St.get, lk, h]
theorem get_mk_hit {i : Nat} {x : PV} {t : List (Nat × PV)} {hp : List (Nat × Option AO)} {nx : Nat} {gh : List PV} : St.get ⟨(i, x) :: t, hp, nx, gh⟩ i = x := by simp [St.get, lk]
theorem get_mk_miss {i s : Nat} {x : PV} {t : List (Nat × PV)} {hp : List (Nat × Option AO)} {nx : Nat} {gh : List PV} (h : i ≠ s) : St.get ⟨(i, x) :: t, hp, nx, gh⟩ s = St.get ⟨t, hp, nx, gh⟩ s := by simp [St.get, lk, h]
theorem get_mk_nil {s : Nat} {hp : List (Nat × Option AO)} {nx : Nat} {gh : List PV} : St.get ⟨[], hp, nx, gh⟩ s = .junk := rfl
/- The reckoning does not look at what stands behind an operation before it has come there. -/
@[congr] theorem xGuard.cong {ops : Array Oper} {S S' : St} {o : Oper} {run skip : St → Prop} (h : S = S') : xGuard ops S o run skip = xGuard ops S' o run skip := by subst h; rfl
@[congr] theorem xOps.cong {P : Program} {ops : Array Oper} {l : List Oper} {S S' : St} {K : St → Prop} (h : S = S') : xOps P ops l S K = xOps P ops l S' K := by subst h; rfl
@[congr] theorem xOpsT.cong {P : Program} {ops : Array Oper} {l : List Oper} {S S' : St} {tr tr' : List Tr} {K : St → List Tr → Prop} (h : S = S') (h2 : tr = tr') : xOpsT P ops l S tr K = xOpsT P ops l S' tr' K := by subst h h2; rfl
@[congr] theorem vop.cong {P : Program} {op : Op} {S S' : St} {K : PV → Eff → Prop} (h : S = S') : vop P op S K = vop P op S' K := by subst h; rfl
@[congr] theorem vLoad.cong {P : Program} {t : TypeId} {S S' : St} {a a' : PV} {K : PV → Eff → Prop} (h : S = S') (h2 : a = a') : vLoad P t S a K = vLoad P t S' a' K := by subst h h2; rfl
@[congr] theorem vStore.cong {P : Program} {t : TypeId} {S S' : St} {a a' v v' : PV} {K : PV → Eff → Prop} (h : S = S') (h2 : a = a') (h3 : v = v') : vStore P t S a v K = vStore P t S' a' v' K := by subst h h2 h3; rfl
@[congr] theorem vFieldAddr.cong {P : Program} {t : TypeId} {f : Nat} {a a' : PV} {K : PV → Eff → Prop} (h : a = a') : vFieldAddr P t f a K = vFieldAddr P t f a' K := by subst h; rfl
@[congr] theorem vField.cong {P : Program} {t : TypeId} {f : Nat} {a a' : PV} {K : PV → Eff → Prop} (h : a = a') : vField P t f a K = vField P t f a' K := by subst h; rfl
@[congr] theorem vIndexAddr.cong {P : Program} {t : TypeId} {a a' i i' : PV} {K : PV → Eff → Prop} (h : a = a') (h2 : i = i') : vIndexAddr P t a i K = vIndexAddr P t a' i' K := by subst h h2; rfl
@[congr] theorem vIndex.cong {P : Program} {t : TypeId} {a a' i i' : PV} {K : PV → Eff → Prop} (h : a = a') (h2 : i = i') : vIndex P t a i K = vIndex P t a' i' K := by subst h h2; rfl
@[congr] theorem vBin.cong {P : Program} {op : BinOp} {t : TypeId} {a a' b b' : PV} {K : PV → Eff → Prop} (h : a = a') (h2 : b = b') : vBin P op t a b K = vBin P op t a' b' K := by subst h h2; rfl
@[congr] theorem vSlice.cong {P : Program} {t : TypeId} {S S' : St} {a a' : PV} {lo hi : Option Operand} {K : PV → Eff → Prop} (h : S = S') (h2 : a = a') : vSlice P t S a lo hi K = vSlice P t S' a' lo hi K := by subst h h2; rfl
@[congr] theorem vBase.cong {S S' : St} {sz sz' : Nat} {a a' : PV} {K : List PV → List Nat → Prop} (h : S = S') (h1 : sz = sz') (h2 : a = a') : vBase S sz a K = vBase S' sz' a' K := by subst h h1 h2; rfl
@[congr] theorem vSrc.cong {S S' : St} {sz sz' : Nat} {a a' : PV} {K : List PV → List Nat → Prop} (h : S = S') (h1 : sz = sz') (h2 : a = a') : vSrc S sz a K = vSrc S' sz' a' K := by subst h h1 h2; rfl
@[congr] theorem vAppend.cong {P : Program} {t : TypeId} {S S' : St} {a a' b b' : PV} {K : PV → Eff → Prop} (h : S = S') (h2 : a = a') (h3 : b = b') : vAppend P t S a b K = vAppend P t S' a' b' K := by subst h h2 h3; rfl
@[congr] theorem vConvert.cong {P : Program} {t t2 : TypeId} {S S' : St} {a a' : PV} {K : PV → Eff → Prop} (h : S = S') (h2 : a = a') : vConvert P t t2 S a K = vConvert P t t2 S' a' K := by subst h h2; rfl
@[congr] theorem vMake.cong {P : Program} {t : TypeId} {S S' : St} {a a' b b' : PV} {K : PV → Eff → Prop} (h : S = S') (h2 : a = a') (h3 : b = b') : vMake P t S a b K = vMake P t S' a' b' K := by subst h h2 h3; rfl
@[congr] theorem vMinMax.cong {mx : Bool} {a a' b b' : PV} {K : PV → Eff → Prop} (h : a = a') (h2 : b = b') : vMinMax mx a b K = vMinMax mx a' b' K := by subst h h2; rfl
@[congr] theorem vLen.cong {P : Program} {t : TypeId} {a a' : PV} {K : PV → Eff → Prop} (h : a = a') : vLen P t a K = vLen P t a' K := by subst h; rfl
@[congr] theorem vopI.cong {P : Program} {op : Op} {S S' : St} {K : PV → Eff → Prop} (h : S = S') : vopI P op S K = vopI P op S' K := by subst h; rfl
@[congr] theorem vFnI.cong {P : Program} {S S' : St} {g g' : PV} {xs : List Operand} {K : PV → Eff → Prop} (h : S = S') (h2 : g = g') : vFnI P S g xs K = vFnI P S' g' xs K := by subst h h2; rfl
@[congr] theorem vProc.cong {P : Program} {S S' : St} {f : FuncId} {vals vals' : List PV} {K : PV → Eff → Prop} (h : S = S') (h2 : vals = vals') : vProc P S f vals K = vProc P S' f vals' K := by subst h h2; rfl
@[congr] theorem vFn.cong {P : Program} {S S' : St} {g g' : PV} {xs : List Operand} {K : PV → Eff → Prop} (h : S = S') (h2 : g = g') : vFn P S g xs K = vFn P S' g' xs K := by subst h h2; rfl
@[congr] theorem vBinO.cong {P : Program} {op : BinOp} {t : TypeId} {S S' : St} {x y : Operand} {K : PV → Eff → Prop} (h : S = S') : vBinO P op t S x y K = vBinO P op t S' x y K := by subst h; rfl
@[congr] theorem vCallO.cong {P : Program} {S S' : St} {c : Callee} {xs : List Operand} {ts : List TypeId} {K : PV → Eff → Prop} (h : S = S') : vCallO P S c xs ts K = vCallO P S' c xs ts K := by subst h; rfl
@[congr] theorem vMakeF.cong {S S' : St} {fn : Fn} {first cap : List Operand} {K : PV → Eff → Prop} (h : S = S') : vMakeF S fn first cap K = vMakeF S' fn first cap K := by subst h; rfl
@[congr] theorem vUn.cong {op : UnOp} {a a' : PV} {K : PV → Eff → Prop} (h : a = a') : vUn op a K = vUn op a' K := by subst h; rfl
theorem li_ext {a b : List Int} (h : a.length = b.length) (h2 : ∀ i, i < b.length → li a i = li b i) : a = b :=
  List.ext_getElem h fun i h1 h3 => by
    have := h2 i h3
    simpa [li, List.getD_eq_getElem?_getD, h1, h3] using this
theorem li_mem {l : List Int} {k : Nat} (h : k < l.length) : li l k ∈ l := by
  have : li l k = l[k] := by simp [li, List.getD_eq_getElem?_getD, h]
  rw [this]; exact List.getElem_mem h
theorem aB {p q : Bool} (h : p = q) : PV.atom (.bool p) = .atom (.bool q) := by rw [h]
theorem aI {k : IntKind} {p q : Int} (h : p = q) : PV.atom (.int k p) = .atom (.int k q) := by rw [h]
def BQ := And.intro (And.intro Bool.not_true Bool.not_false) (And.intro not_true_eq_false (And.intro (And.intro @decide_eq_true_eq @decide_eq_false_iff_not) (And.intro @Bool.not_eq_true' @Bool.not_eq_false')))
def CQ := And.intro (And.intro @decide_eq_true_eq @decide_eq_false_iff_not) (And.intro (And.intro @Bool.not_eq_true' @Bool.not_eq_false') (And.intro @Bool.and_eq_true @Bool.or_eq_true))
def SD := (And.intro (And.intro (And.intro (And.intro (And.intro @XvLoad_eq @XvStore_eq) (And.intro @XvFieldAddr_eq @XvField_eq)) (And.intro (And.intro @XvIndexAddr_eq @XvIndex_eq) (And.intro @XvBinOV_eq @XvUn_eq))) (And.intro (And.intro (And.intro @XvConvert_eq @XvMake_eq) (And.intro @XvSliceV_eq @XvPick_eq)) (And.intro (And.intro @XvBox_eq @XvAlloc_eq) (And.intro @XvBuild_eq @XvBuildS_eq)))) (And.intro (And.intro (And.intro (And.intro @XvNil_eq @XvExtract_eq) (And.intro @XvMakeFV_eq @XvLen_eq)) (And.intro (And.intro @XvAppend_eq @XvMinMax_eq) (And.intro @XvFnV_eq @XvFnIV_eq))) (And.intro (And.intro (And.intro @Xgq_eq @Xge_eq) (And.intro @get_known_hit @get_known_miss)) (And.intro (And.intro @get_born_hit @get_born_miss) (And.intro @get_mk_hit (And.intro @get_mk_miss @get_mk_nil))))))
attribute [push_cast] intsOf gq ge vPick vBox vAlloc vBuild vBuildS vNil vExtract vMakeFV vSliceV bndV vBinOV vFnV vFnIV M pvU xG_tt xG_ff xG_tf xG_ft St.ev St.fin St.obj St.known lk argEnv e0 mk1 rdE Eff.hp Eff.tr addH isNilC nilSl vBin binV vLoad vStore vFieldAddr vField vIndexAddr vIndex vAppend vBase vSrc vConvert vMake vMinMax vLen vUn bnd St.born sealed PV.ren renL noObL PV.noOb flatB_junk flatB_atom flatB_ob flatB_ptr flatB_agg flatB_tup flatB_fn flatB_sl0 flatL_nil flatL_cons Bool.true_or Bool.false_or renL_encI renL_encS renL_ints renL_strs map_ren_encI map_ren_encS map_ren_ints map_ren_strs AO.ren PV.cells PV.part PV.putPart PV.one Value.oneCell' isByte evParts setParts putAll spl thenQ List.map_nil List.map_cons List.nil_append List.cons_append List.append_nil List.length_nil List.length_cons List.length_map List.length_append List.length_take List.length_drop List.length_replicate List.all_cons List.all_nil List.flatMap_nil List.flatMap_cons List.foldl_cons List.foldl_nil List.getElem?_toArray List.getElem?_cons_succ List.getElem?_cons_zero List.getD_cons_zero List.getD_cons_succ List.set_cons_zero List.set_cons_succ List.take_succ_cons List.take_zero List.drop_succ_cons List.drop_zero List.replicate_succ List.replicate_zero List.mem_cons List.not_mem_nil List.forall_mem_cons List.take_nil List.drop_nil Option.isSome_some Option.isSome_none Option.getD_some Option.getD_none Option.join_some Option.bind_some Option.map_some Option.map_none Option.some.injEq Nat.add_zero Nat.zero_add Nat.zero_mul Nat.succ_eq_add_one Int.toNat_natCast Int.toNat_zero Int.toNat_one Int.cast_ofNat_Int if_true if_false ite_true ite_false true_and and_true false_and and_false cond_true cond_false Bool.and_true Bool.true_and Bool.and_self Bool.not_true Bool.not_false forall_const true_implies false_implies ne_eq not_false_eq_true not_true_eq_false and_self or_false or_true false_or true_or implies_true forall_eq Bool.false_eq_true Bool.true_eq_false Bool.not_eq_true forall_eq_or_imp Nat.le_refl decide_true decide_false Nat.lt_add_one Nat.zero_lt_succ Nat.lt_irrefl Nat.le_zero_eq Int.ofNat_le Int.ofNat_lt
attribute [push_cast] tAgg_1 tSize_1 tBytes_1 tElem_1 tStr_1 tInt_1 tzo_1 tAgg_2 tSize_2 tBytes_2 tElem_2 tStr_2 tInt_2 tUnd_2 tzo_2 tAgg_3 tSize_3 tBytes_3 tElem_3 tStr_3 tInt_3 tUnd_3 tzo_3 tAgg_4 tSize_4 tBytes_4 tElem_4 tStr_4 tInt_4 tUnd_4 tBool_4 tzo_4 tAgg_22 tSize_22 tBytes_22 tElem_22 tStr_22 tInt_22 tzo_22 tAgg_23 tSize_23 tBytes_23 tElem_23 tStr_23 tInt_23 tzo_23 tAgg_25 tSize_25 tBytes_25 tElem_25 tStr_25 tInt_25 tFld_25_0 tPlace_25_0 tFld_25_1 tPlace_25_1 tFld_25_2 tPlace_25_2 tKnown_25 tzo_25 tAgg_32 tSize_32 tBytes_32 tElem_32 tStr_32 tInt_32 tUnd_32 tzo_32 tAgg_38 tSize_38 tBytes_38 tElem_38 tStr_38 tInt_38 tFld_38_0 tPlace_38_0 tFld_38_1 tPlace_38_1 tFld_38_2 tPlace_38_2 tKnown_38 tzo_38 tAgg_47 tSize_47 tBytes_47 tElem_47 tStr_47 tInt_47 tFld_47_0 tPlace_47_0 tFld_47_1 tPlace_47_1 tFld_47_2 tPlace_47_2 tKnown_47 tzo_47 tAgg_66 tSize_66 tBytes_66 tElem_66 tStr_66 tInt_66 tzo_66 tAgg_67 tSize_67 tBytes_67 tElem_67 tStr_67 tInt_67 tArr_67 tPlace_67 tKnown_67 tEqG_67 tzo_67 tAgg_76 tSize_76 tBytes_76 tElem_76 tStr_76 tInt_76 tzo_76 tAgg_77 tSize_77 tBytes_77 tElem_77 tStr_77 tInt_77 tzo_77 tAgg_78 tSize_78 tBytes_78 tElem_78 tStr_78 tInt_78 tzo_78 tAgg_82 tSize_82 tBytes_82 tElem_82 tStr_82 tInt_82 tzo_82 tAgg_83 tSize_83 tBytes_83 tElem_83 tStr_83 tInt_83 tUnd_83 tzo_83 tAgg_86 tSize_86 tBytes_86 tElem_86 tStr_86 tInt_86 tzo_86 tAgg_106 tSize_106 tBytes_106 tElem_106 tStr_106 tInt_106 tzo_106 tAgg_112 tSize_112 tBytes_112 tElem_112 tStr_112 tInt_112 tzo_112
theorem cl {p : Prop} (h : p := by first | omega | rfl | exact True.intro | exact one_encI _ | exact one_encS _ | exact one_ints _ | exact one_strs _) : p := h
theorem st {A B : Prop} (g : B) (h : A = B := by simp (maxSteps := 2000000) only [↓SD, push_cast, Nat.reduceAdd, Nat.reduceSub, Nat.reduceMul, Nat.reduceLT, Nat.reduceLeDiff, Nat.reduceEqDiff, Int.reduceToNat, reduceIte, reduceCtorEq, Int.reduceLE, Int.reduceLT, Int.reduceNeg, ints, strs, encI, encS]; exact rfl) : A := h.symm ▸ g
section
variable {P : Program} {n : Nat} {S : St} {Q : Exit → St → Prop}
theorem rZ {id : Nat} {l : List Oper} (live : List Nat) (T : Program → St → (St → Prop) → Prop) (h : ∀ K : St → Prop, (∀ S', Q .normal S' → K S') → T P S K) (hd : dstOk n l = true := by kernel_rfl) (hT : ∀ K, yOps P l.toArray l S (fun S1 => K (S1.pick live)) = T P S K := by intro K; kernel_rfl) :
    Tri P n (.region id l.toArray false) S Q := Tri.regY live (T P) hd hT h
theorem sZ {id : Nat} {l : List Oper} {y : Code} (live : List Nat) (T : Program → St → (St → Prop) → Prop) (h : ∀ K : St → Prop, (∀ S', Tri P n y S' Q → K S') → T P S K) (hd : dstOk n l = true := by kernel_rfl) (hT : ∀ K, yOps P l.toArray l S (fun S1 => K (S1.pick live)) = T P S K := by intro K; kernel_rfl) :
    Tri P n (.seq (.region id l.toArray false) y) S Q := Tri.seqY live (T P) hd hT h
theorem rD {id : Nat} {l : List Oper} (n0 : Nat) (live : List Nat) (T : Program → List (List Nat) → St → (St → Prop) → Prop) (h : ∀ K : St → Prop, (∀ S', Q .normal S' → K S') → T P (growDeps l) S K) (hm : P.follows .mixedOrders = true := by kernel_rfl) (hB : growB l.toArray (growDeps l) n0 = true := by kernel_rfl) (hd : dstOk n l = true := by kernel_rfl)
    (hT : ∀ K, yOpsT P l.toArray (l.take n0) S [] (fun S1 tr => trOk S.nx (growDeps l) tr = true ∧ yOps P l.toArray (l.drop n0) S1 (fun S1 => K (S1.pick live))) = T P (growDeps l) S K := by intro K; kernel_rfl) :
    Tri P n (.region id l.toArray true) S Q := Tri.regYD n0 live (T P) hm hB hd hT h
theorem sD {id : Nat} {l : List Oper} {y : Code} (n0 : Nat) (live : List Nat) (T : Program → List (List Nat) → St → (St → Prop) → Prop) (h : ∀ K : St → Prop, (∀ S', Tri P n y S' Q → K S') → T P (growDeps l) S K) (hm : P.follows .mixedOrders = true := by kernel_rfl) (hB : growB l.toArray (growDeps l) n0 = true := by kernel_rfl) (hd : dstOk n l = true := by kernel_rfl)
    (hT : ∀ K, yOpsT P l.toArray (l.take n0) S [] (fun S1 tr => trOk S.nx (growDeps l) tr = true ∧ yOps P l.toArray (l.drop n0) S1 (fun S1 => K (S1.pick live))) = T P (growDeps l) S K := by intro K; kernel_rfl) :
    Tri P n (.seq (.region id l.toArray true) y) S Q := Tri.seqYD n0 live (T P) hm hB hd hT h
theorem rY {id : Nat} {l : List Oper} {S' : St} (live : List Nat) (T : Program → St → (St → Prop) → Prop) (g : Q .normal S') (h : ∀ K : St → Prop, K S' → T P S K := by intro K hK; repeat' (first | refine And.intro ?_ ?_ | exact cl | refine one_take ?_ _ | refine one_drop ?_ _ | refine st ?_ | exact hK)) (hd : dstOk n l = true := by kernel_rfl) (hT : ∀ K, yOps P l.toArray l S (fun S1 => K (S1.pick live)) = T P S K := by intro K; kernel_rfl) :
    Tri P n (.region id l.toArray false) S Q := Tri.regY live (T P) hd hT fun K hK => h K (hK _ g)
theorem sY {id : Nat} {l : List Oper} {y : Code} {S' : St} (live : List Nat) (T : Program → St → (St → Prop) → Prop) (g : Tri P n y S' Q) (h : ∀ K : St → Prop, K S' → T P S K := by intro K hK; repeat' (first | refine And.intro ?_ ?_ | exact cl | refine one_take ?_ _ | refine one_drop ?_ _ | refine st ?_ | exact hK)) (hd : dstOk n l = true := by kernel_rfl) (hT : ∀ K, yOps P l.toArray l S (fun S1 => K (S1.pick live)) = T P S K := by intro K; kernel_rfl) :
    Tri P n (.seq (.region id l.toArray false) y) S Q := Tri.seqY live (T P) hd hT fun K hK => h K (hK _ g)
end
theorem ResIs.freeze {F : Nat → Prop} {w w' : World} {r r' : PV} {os : List AO} {v : Value} (h : ResIs F w w' r os v) (k : Nat) (e : sealed (fun i => os[i]?) (fun _ => false) k r = r') (hp : r'.pure = true) : ResIs F w w' r' [] v := by
  obtain ⟨ν, F', hr, ho, hf, hi, hF⟩ := h
  have hlt : ∀ i o, os[i]? = some o → i < os.length := fun i o g => (List.getElem?_eq_some_iff.1 g).1
  have hH : HeapSim ⟨w', fun _ => True⟩ (fun _ => True) (· < os.length) ν F' (fun i => os[i]?) w' :=
    ⟨fun i o g => ⟨hlt i o g, ho i o g⟩, fun i j o o' b g1 g2 g3 g4 => hi i j b (hlt i o g1) (hlt j o' g2) g3 g4, fun i o b g1 g2 => ⟨.inr trivial, (hf i b (hlt i o g1) g2).2⟩, Ext.refl _ _, fun b _ => .inl trivial, fun b g => (hF b g).2⟩
  have hs := Rep.sealed hH (fun _ => false) (fun b => F' b ∨ ∃ i o, os[i]? = some o ∧ ν i = some b) (fun b g => .inl g) (fun i o b _ g1 g2 => .inr ⟨i, o, g1, g2⟩) k r v hr
  rw [e] at hs
  refine ⟨fun _ => none, _, hs.pureAny hp, fun i o g => by simp at g, fun i b g => by simp at g, fun i j b g => by simp at g, fun b hb => ?_⟩
  rcases hb with hb | ⟨i, o, g1, g2⟩
  · exact hF b hb
  · refine ⟨.inr (hf i b (hlt i o g1) g2).1, ?_⟩
    have hst := ho i o g1
    rw [g2] at hst
    obtain ⟨A, e, h1, _⟩ := hst
    rcases Nat.lt_or_ge b w'.heap.size with hh | hh
    · exact hh
    · rw [Array.getElem?_eq_none hh] at h1; cases h1
theorem Pure.freeze {P : Program} {f : FuncId} {args : List PV} {r r' : PV} {os : List AO} (h : Pure P f args r os) (k : Nat) (e : sealed (fun i => os[i]?) (fun _ => false) k r = r') (hp : r'.pure = true) : Pure P f args r' [] :=
  ⟨h.1, fun D μ F w vs h1 h2 h3 => (h.2 D μ F w vs h1 h2 h3).mono fun _ _ ⟨v, g1, g2, g3⟩ => ⟨v, g1, g2, g3.freeze k e hp⟩⟩
def around (n most : Int) : Int := (if n < 0 then -(n + 1) else n).tmod most
theorem around_lo {n most : Int} (hm : 0 < most) : 0 ≤ around n most := by
  unfold around; exact Int.tmod_nonneg _ (by split <;> omega)
theorem around_hi {n most : Int} (hm : 0 < most) : around n most < most := by
  unfold around; exact Int.tmod_lt_of_pos _ hm
def atI (l : List Int) (i most : Int) : Int := if i < 0 ∨ (l.length : Int) ≤ i then 0 else around (li l i.toNat) most
def I64 (x : Int) : Prop := -9223372036854775808 ≤ x ∧ x ≤ 9223372036854775807
def Fits (l : List Int) : Prop := (∀ x, x ∈ l → I64 x) ∧ l.length ≤ 9223372036854775807
def encP (p : Int × Int) : PV := .agg [encI p.1, encI p.2]
def pairs (l : List (Int × Int)) : PV := .sl 2 (l.map encP)
theorem pureL_encP (l : List (Int × Int)) : pureL (l.map encP) = true := pureL_map encP (fun _ => rfl) l
theorem pure_pairs (l : List (Int × Int)) : (pairs l).pure = true := pureL_encP l
def lp (l : List (Int × Int)) (k : Nat) : Int × Int := l.getD k (0, 0)
theorem getD_encP {l : List (Int × Int)} {k : Nat} (h : k < l.length) : (l.map encP).getD k .junk = encP (lp l k) := by
  simp [lp, List.getD_eq_getElem?_getD, h]
theorem lp_get {l : List (Int × Int)} {k : Nat} (h : k < l.length) : lp l k = l[k] := by simp [lp, List.getD_eq_getElem?_getD, h]
theorem lp_mem {l : List (Int × Int)} {k : Nat} (h : k < l.length) : lp l k ∈ l := by rw [lp_get h]; exact List.getElem_mem h
theorem renL_encP (ρ : Nat → Nat) (l : List (Int × Int)) : renL ρ (l.map encP) = l.map encP := renL_pure ρ _ (pureL_encP l)
def AsSl (sz : Nat) (l : List PV) (x : PV) : Prop := x = .sl sz l ∨ (l = [] ∧ x = .atom (.slice none 0 0))
theorem Pure.sub {P : Program} {f : FuncId} {args args' : List PV} {r : PV} {os : List AO} (hp : Pure P f args r os) (hl : args'.length = args.length)
    (h : ∀ i (h1 : i < args.length) (h2 : i < args'.length) (D : Nat → Prop) (μ : Nat → Option Nat) (F : Nat → Prop) (w : World) (v : Value), Rep D μ F w args'[i] v → Rep D μ F w args[i] v) : Pure P f args' r os :=
  ⟨hp.1, fun D μ F w vs h1 h2 h3 => hp.2 D μ F w vs (h1.trans hl) (fun i hi => h i hi (by omega) D μ F w _ (h2 i (by omega))) h3⟩
theorem AsSl.pure {sz : Nat} {l : List PV} {x : PV} (h : AsSl sz l x) (hl : pureL l = true) : x.pure = true := by
  rcases h with rfl | ⟨rfl, rfl⟩
  · exact hl
  · rfl
theorem dec_self {α : Type} [DecidableEq α] (a : α) : decide (a = a) = true := decide_eq_true rfl
theorem dec_yes {p : Prop} [Decidable p] (h : p) : decide p = true := decide_eq_true h
theorem dec_no {p : Prop} [Decidable p] (h : ¬ p) : decide p = false := decide_eq_false h
def nI (l : List Nat) : List Int := l.map (fun (n : Nat) => (n : Int))
theorem nI_len (l : List Nat) : (nI l).length = l.length := by simp [nI]
def down (p : Nat → Bool) : Nat → Nat
  | 0 => 0
  | k + 1 => if p k then down p k else k + 1
structure DownI (p : Nat → Bool) (n k : Nat) : Prop where
  le : k ≤ n
  core : down p n = down p k
theorem DownI.step {p : Nat → Bool} {n k : Nat} (h : DownI p n k) (hk : 0 < k) (hc : p (k - 1) = true) : DownI p n (k - 1) := by
  obtain ⟨k, rfl⟩ : ∃ j, k = j + 1 := ⟨k - 1, by omega⟩
  simp only [Nat.add_sub_cancel] at hc ⊢
  refine ⟨by have := h.le; omega, ?_⟩
  rw [h.core, down, if_pos hc]
theorem DownI.stop {p : Nat → Bool} {n k : Nat} (h : DownI p n k) (hc : k = 0 ∨ p (k - 1) = false) : down p n = k := by
  rw [h.core]
  cases k with
  | zero => rfl
  | succ k =>
    simp only [Nat.add_sub_cancel] at hc
    have := hc.resolve_left (by omega)
    rw [down, if_neg (by rw [this]; decide)]
theorem AsSl.reach {sz : Nat} {l : List PV} {x : PV} (h : AsSl sz l x) (H : Nat → Option AO) (n : Nat) : reach H n x = [] := by
  cases n with
  | zero => rfl
  | succ n => rcases h with rfl | ⟨_, rfl⟩ <;> rfl
theorem pure_reach {H : Nat → Option AO} : ∀ (n : Nat) (p : PV), p.pure = true → reach H n p = [] := by
  intro n
  induction n with
  | zero => intro p _; rfl
  | succ n ih =>
    intro p h
    cases p with
    | agg l => simp only [PV.pure] at h; simp only [reach]; exact List.flatMap_eq_nil_iff.2 fun q hq => ih q (by rw [pureL_all] at h; exact List.all_eq_true.1 h q hq)
    | tup l => simp only [PV.pure] at h; simp only [reach]; exact List.flatMap_eq_nil_iff.2 fun q hq => ih q (by rw [pureL_all] at h; exact List.all_eq_true.1 h q hq)
    | fn f l => simp only [PV.pure] at h; simp only [reach]; exact List.flatMap_eq_nil_iff.2 fun q hq => ih q (by rw [pureL_all] at h; exact List.all_eq_true.1 h q hq)
    | ob i sz off len => cases h
    | ptr i sz k c => cases h
    | _ => rfl
theorem vProc.row {P : Program} {S : St} {f : FuncId} {vals args : List PV} {els els' : List PV} {r : PV} {K : PV → Eff → Prop} (i sz : Nat) (hpr : Proc P f args [⟨sz, els⟩] r [some ⟨sz, els'⟩] []) (ho : S.obj i = some ⟨sz, els⟩)
    (hp : pureL els = true) (hp' : pureL els' = true) (hr : r.pure = true) (hv : vals.map (sealed S.obj (fun j => [i].contains j) 4) = args.map (PV.ren (rmap [i] S.nx))) (hf : r.flatB = true) (hf' : els'.all PV.flatB = true) (hk : K r ⟨[], [], [(i, ⟨sz, els'⟩)], []⟩) : vProc P S f vals K := by
  refine ⟨[i], 4, args, [⟨sz, els⟩], r, [some ⟨sz, els'⟩], [], hpr, ⟨by simp, rfl, hv, fun j o hj => ?_⟩, .inr ⟨hf, rfl, by simp [flatO, hf']⟩, ?_⟩
  · cases j with
    | zero => obtain rfl : AO.mk sz els = o := by simpa using hj
              exact ⟨_, by simpa [rmap] using ho, rfl, by show els.map _ = els.map _; rw [map_sealed_pure _ _ _ hp, map_ren_pure _ hp]⟩
    | succ j => simp at hj
  · simpa [procDel, procSet, AO.ren, ren_pure _ r hr, map_ren_pure _ hp'] using hk
theorem ResP.row {S : St} {sz : Nat} {els els' : List PV} {o : AO} (h0 : S.obj 0 = some ⟨sz, els⟩) (he : els = els') (hp : pureL els' = true) (hs : o.sz = sz) (hg : S.gh = [.ob 0 sz 0 0]) : ResP S [] (.tup []) [o] [some ⟨sz, els'⟩] [] := by
  subst he
  subst hs
  refine ⟨[0], 4, by simp [retV, sealed, PV.ren, renL], fun p hp => by simp at hp, fun p hpm o' ho' => ?_, rfl, by simp, by rw [hg]; rfl, fun i h _ => ?_⟩
  · obtain rfl : p = (0, some ⟨o.sz, els⟩) := by simpa [objEnv] using hpm
    obtain rfl : AO.mk o.sz els = o' := by simpa using ho'
    exact ⟨Nat.zero_lt_one, _, by simpa [rmap] using h0, rfl, by show els.map _ = els.map _; rw [map_sealed_pure _ _ _ hp, map_ren_pure _ hp]⟩
  · match i, h with
    | 0, _ => simp [hg, marks, sealed, PV.ren, rmap]
theorem getD_setne {α : Type} {l : List α} {j k : Nat} (h : j ≠ k) (x y : α) : (l.set j x).getD k y = l.getD k y := by
  simp [List.getD_eq_getElem?_getD, List.getElem?_set_ne h]
theorem wrapU_id {x : Int} (h0 : 0 ≤ x) (h1 : x ≤ 18446744073709551615) : IntKind.u64.wrap x = x := by
  have : IntKind.u64.wrap x = x % 18446744073709551616 := by simp [IntKind.wrap, IntKind.bits, IntKind.signed]
  rw [this]; omega
theorem uhalf {i j k : Nat} (hk : k = (i + j) / 2) (h : i + j ≤ 9223372036854775807) : IntKind.i64.wrap ((IntKind.u64.wrap (IntKind.i64.wrap ((i : Int) + j))).fdiv (2 ^ min 1 IntKind.u64.bits)) = (k : Int) := by
  rw [wrap_id (x := (i : Int) + j) (by omega) (by omega), wrapU_id (by omega) (by omega)]
  have e : ((i : Int) + j).fdiv (2 ^ min 1 IntKind.u64.bits) = (k : Int) := by
    show ((i : Int) + j).fdiv 2 = _
    rw [Int.fdiv_eq_ediv_of_nonneg _ (by decide)]; omega
  rw [e, wrap_id (by omega) (by omega)]
theorem map_sealed_encP (H : Nat → Option AO) (keep : Nat → Bool) (n : Nat) (l : List (Int × Int)) : (l.map encP).map (sealed H keep n) = l.map encP := map_sealed_pure H keep n (pureL_encP l)
theorem map_ren_encP (ρ : Nat → Nat) (l : List (Int × Int)) : (l.map encP).map (PV.ren ρ) = l.map encP := map_ren_pure ρ (pureL_encP l)
theorem one_encP (l : List (Int × Int)) : ((l.map encP).all fun q => q.cells.all PV.one) = true := by rw [List.all_map]; exact List.all_eq_true.2 fun _ _ => rfl
theorem HeapSim.swap {w0 : Home} {F0 D : Nat → Prop} {μ : Nat → Option Nat} {F : Nat → Prop} {H : Nat → Option AO} {w : World} (h : HeapSim w0 F0 D μ F H w) (i : Nat) (o o' : AO) (hi : H i = some o) (hs : Stands D μ F w o (μ i) → Stands D μ F w o' (μ i)) :
    HeapSim w0 F0 D μ F (upd H i (some o')) w := by
  refine h.step (Stay.refl _ _) (fun j hj => ⟨hj, rfl⟩) (fun _ hb => hb) h.ext h.f0 h.fsz fun j oj hj => ?_
  by_cases hji : j = i
  · subst hji
    rw [upd_same] at hj
    obtain rfl := Option.some.inj hj
    have ho := h.objs _ _ hi
    refine .inr ⟨ho.1, hs ho.2, fun b hb => ⟨(h.own _ _ b hi hb).1, (h.own _ _ b hi hb).2, fun k o2 hk hk2 hkb => ?_⟩⟩
    rw [upd_other _ _ hk] at hk2
    exact hk (h.inj k _ _ _ b hk2 hi hkb hb)
  · rw [upd_other _ _ hji] at hj
    exact .inl ⟨hj, fun b hb => ⟨rfl, (h.own _ _ b hj hb).2⟩⟩
theorem Tri.bornF {P : Program} {n : Nat} {c : Code} {S : St} {Q : Exit → St → Prop} (i k sz osz : Nat) (cs : List PV) (h : S.obj i = some ⟨osz, [.agg cs]⟩) (hk : cs[k]? = some (.atom (.slice none 0 0)))
    (ht : Tri P n c ⟨S.env, (i, some ⟨osz, [.agg (cs.set k (.ob S.nx sz 0 0))]⟩) :: (S.nx, some ⟨sz, []⟩) :: S.hp, S.nx + 1, S.gh⟩ Q) : Tri P n c S Q := fun w0 F0 D μ F G a w hS => by
  have hn : ¬ D S.nx := fun hd => Nat.lt_irrefl _ (hS.ids _ hd)
  have hold := also_ok (D := D) (μ := μ) (none : Option Nat) hn
  have hDi := (hS.heap.objs _ _ h).1
  have hin : i ≠ S.nx := fun e => hn (e ▸ hDi)
  refine ht w0 F0 (also D S.nx) (upd μ S.nx none) F G a w ⟨hS.defers, hS.size, fun s => (hS.env s).stay (Stay.refl _ _) hold (fun _ h => h), ?_, fun j hj => ?_, hS.ghl, fun j hj => (hS.gh j hj).stay (Stay.refl _ _) hold (fun _ h => h)⟩
  · have h1 := HeapSim.add hS.heap S.nx hn ⟨sz, []⟩ none (Stay.refl _ _) hS.heap.ext (Nat.le_refl _) rfl (fun b hb => by cases hb) (fun _ _ _ _ _ => rfl)
    have h2 := h1.swap i ⟨osz, [.agg cs]⟩ ⟨osz, [.agg (cs.set k (.ob S.nx sz 0 0))]⟩ (by rw [upd_other _ _ hin]; exact h) (fun hst => by
      cases hm : upd μ S.nx none i with
      | none => rw [hm] at hst; have : ([.agg cs] : List PV) = [] := hst; cases this
      | some b =>
        rw [hm] at hst
        obtain ⟨A, e, g1, g2, g3, g4⟩ := (hst : ObjOk _ _ _ _ b _)
        show ObjOk (also D S.nx) (upd μ S.nx none) F w b ⟨osz, [.agg (cs.set k (.ob S.nx sz 0 0))]⟩
        refine ⟨A, e, g1, g2, fun m hm2 => ?_, fun m hm2 c hc => ?_⟩
        · have : m = 0 := by simp at hm2; omega
          subst this
          have := g3 0 (by simp)
          simpa [PV.cells] using this
        · have : m = 0 := by simp at hm2; omega
          subst this
          have hc' : c < cs.length := by simpa [PV.cells] using hc
          have hr := g4 0 (by simp) c (by simpa [PV.cells] using hc')
          simp only [List.getElem_cons_zero, PV.cells] at hr ⊢
          rw [List.getElem_set]
          split
          · rename_i hkc
            subst hkc
            have e1 : cs[k] = .atom (.slice none 0 0) := by
              have := List.getElem?_eq_getElem hc'
              rw [hk] at this; exact (Option.some.inj this).symm
            rw [e1] at hr
            rw [nil_val hr]
            exact .obn S.nx sz (.inr rfl) (upd_same ..)
          · exact hr)
    have e : (St.mk S.env ((i, some ⟨osz, [.agg (cs.set k (.ob S.nx sz 0 0))]⟩) :: (S.nx, some ⟨sz, []⟩) :: S.hp) (S.nx + 1) S.gh).obj = upd (upd S.obj S.nx (some ⟨sz, []⟩)) i (some ⟨osz, [.agg (cs.set k (.ob S.nx sz 0 0))]⟩) := by
      funext j
      show (lk ((i, _) :: (S.nx, some ⟨sz, []⟩) :: S.hp) j).join = _
      unfold lk upd
      by_cases hj : i = j
      · rw [if_pos hj, if_pos hj.symm]; rfl
      · rw [if_neg hj, if_neg (Ne.symm hj)]
        unfold lk
        by_cases hj2 : S.nx = j
        · rw [if_pos hj2, if_pos hj2.symm]; rfl
        · rw [if_neg hj2, if_neg (Ne.symm hj2)]; rfl
    rw [e]; exact h2
  · rcases hj with hj | rfl
    · exact Nat.lt_succ_of_lt (hS.ids j hj)
    · exact Nat.lt_succ_self _
set_option maxRecDepth 20000
theorem leqA1 {p : Prop} (h : p := by (refine ⟨4, ?_, ?_, rfl, by simp, rfl, fun _ h _ => absurd h (Nat.not_lt_zero _)⟩ <;> (simp only [List.forall_mem_cons]; repeat' (first | refine And.intro ?_ ?_ | (intro p hp; exact absurd hp List.not_mem_nil) | rfl | exact (sealed_pure _ _ _ (pure_ints _)).trans (ren_ints _ _).symm | exact (sealed_pure _ _ _ (pure_strs _)).trans (ren_strs _ _).symm | exact sp (by assumption) | (intro o ho; cases ho; refine ⟨by decide, ?_⟩; first | (refine LeqS.row rfl ?_ ?_; (next => (first | rfl | (simp only [List.map_append, List.map_cons, List.map_nil, List.append_nil, List.nil_append, List.append_assoc, List.cons_append, encI, encS, ints, strs]; done) | (simp [encI, encS, ints, strs]; done))); (next => (first | rfl | exact pureL_encI _ | exact pureL_encS _ | exact pureL_ints _ | exact pureL_strs _ | (simp [pureL_append, pureL_encI, pureL_encS, pureL_ints, pureL_strs, pureL, PV.pure, pure_ints, pure_strs]; done))); done) | refine ⟨_, rfl, rfl, ?_⟩) | (simp [St.born, St.known, retV, St.get, St.obj, lk, sealed, PV.ren, renL, rmap, AO.ren, ints, strs, encI, encS, map_sealed_encI, map_sealed_encS, map_sealed_ints, map_sealed_strs, map_ren_encI, map_ren_encS, map_ren_ints, map_ren_strs, renL_encI, renL_encS, renL_ints, renL_strs] <;> omega)))); first | done | fail) : p := h
theorem lsrA1 {p : Prop} (h : p := by (first | rfl | (simp [St.born, St.known, retV, St.get, St.obj, lk, sealed, PV.ren, renL, rmap, AO.ren, ints, strs, encI, encS, map_sealed_encI, map_sealed_encS, map_sealed_ints, map_sealed_strs, map_ren_encI, map_ren_encS, map_ren_ints, map_ren_strs, renL_encI, renL_encS, renL_ints, renL_strs]; done)); first | done | fail) : p := h
theorem lpvA1 {p : Prop} (h : p := by (first | rfl | (simp [pure_ints, pure_strs, PV.pure, pureL, pureL_encI, pureL_encS, pureL_ints, pureL_strs]; done)); first | done | fail) : p := h
theorem Around_pure (n most : Int) (h : I64 n) (hm : 0 < most) : Pure Try.prog 35 [encI n, encI most] (encI (around n most)) [] := by
  obtain ⟨h1, h2⟩ := h
  refine Pure.intro (ts := [4]) Try.func35 (by kernel_rfl) rfl rfl rfl (Nat.le_of_ble_eq_true rfl) ?_ ?_
  · simp [pure_ints, pure_strs, encI, encS, PV.pure, pureL]
  refine sY [0, 1] (fun P S K => K ⟨[(0, S.get 0), (1, S.get 1)], S.hp, S.nx, S.gh⟩) ?_
  all_goals
  refine Tri.cut (α := Unit) (fun ⟨⟩ => ⟨[(0, encI (if n < 0 then -(n + 1) else n)), (1, encI most)], [], 0, []⟩) ?_ ?_
  ·skip
   refine sY [0, 1, 6] (fun P S K => XvBinOV P .lss 3 (.const (.int .i64 0)) (S.get 0) (.atom (.int .i64 0)) (fun r1 _ => K ⟨[(0, S.get 0), (1, S.get 1), (6, r1)], S.hp, S.nx, S.gh⟩)) ?_
   all_goals
   refine Tri.cond rfl (fun h6 => ?_) (fun h6 => ?_)
   ·try (cases h6; done)
    all_goals (try simp only [CQ] at h6)
    all_goals
    refine rY [0, 1] (fun P S K => XvBinOV P .add 3 (.const (.int .i64 1)) (S.get 0) (.atom (.int .i64 1)) (fun r1 _ => XvUn .neg r1 (fun r2 _ => K ⟨[(0, r2), (1, S.get 1)], S.hp, S.nx, S.gh⟩))) ?_
    all_goals try simp (disch := omega) only [wrap_id, wrap8_id]
    all_goals
    first | rw [if_pos h6] | rw [if_neg h6]
    refine ⟨(), [], ?_⟩
    exact leqA1
   ·try (cases h6; done)
    all_goals (try simp only [CQ] at h6)
    all_goals
    refine Tri.skip ?_
    first | rw [if_pos h6] | rw [if_neg h6]
    refine ⟨(), [], ?_⟩
    exact leqA1
  ·rintro ⟨⟩
   refine sY [4] (fun P S K => XvBinOV P .rem 3 (.tmp 11) (S.get 0) (S.get 1) (fun r2 _ => K ⟨[(4, r2)], S.hp, S.nx, S.gh⟩)) ?_
   all_goals
   refine Tri.ret ?_
   show ResOk _ _ _ _
   exact ResOk.val lsrA1 lpvA1
theorem At_pure (l : List Int) (i most : Int) (hl : Fits l) (h1 : I64 i) (hm : 0 < most) :
    Pure Try.prog 36 [ints l, encI i, encI most] (encI (atI l i most)) [] := by
  have hll := hl.2
  refine Pure.intro (ts := [6]) Try.func36 (by kernel_rfl) rfl rfl rfl (Nat.le_of_ble_eq_true rfl) ?_ ?_
  · simp [pure_ints, pure_strs, encI, encS, PV.pure, pureL]
  refine sY [0, 1, 2] (fun P S K => K ⟨[(0, S.get 0), (1, S.get 1), (2, S.get 2)], S.hp, S.nx, S.gh⟩) ?_
  all_goals
  refine Tri.seq ?_
  refine sZ [0, 1, 2, 14] (fun P S K => XvBinOV P .lss 3 (.const (.int .i64 0)) (S.get 1) (.atom (.int .i64 0)) (fun r1 _ => Xgq r1 false (fun k => k (S.get 1)) (fun g3 r3 => Xgq g3 false (fun k => k (S.get 0)) (fun g4 r4 => Xgq g4 false (fun k => XvLen P 22 r4 (fun r5 _ => k r5)) (fun g5 r5 => Xgq g5 false (fun k => XvBinOV P .geq 3 (.tmp 12) r3 r5 (fun r6 _ => k r6)) (fun g6 r6 => XvPick g6 (.atom (.bool true)) r6 (fun r7 _ => K ⟨[(0, S.get 0), (1, S.get 1), (2, S.get 2), (14, r7)], S.hp, S.nx, S.gh⟩))))))) fun K hK => ?_
  repeat' (first | (refine hK _ ?_; clear hK K) | ((first | refine xG_intro (fun hg => ?_) (fun hg => ?_) | refine fun (hg : (_ : Prop)) => ?_) <;> ((try simp only [BQ] at hg); try (exfalso; omega))) | refine And.intro ?_ ?_ | exact cl | refine one_take ?_ _ | refine one_drop ?_ _ | refine st ?_)
  all_goals
  refine Tri.cond rfl (fun h14 => ?_) (fun h14 => ?_)
  ·try (cases h14; done)
   all_goals (try simp only [CQ] at h14)
   all_goals
   refine sY [6] (fun P S K => K ⟨[(6, (.atom (.int .i64 0)))], S.hp, S.nx, S.gh⟩) ?_
   all_goals
   refine Tri.ret ?_
   show ResOk _ _ _ _
   exact ResOk.val (aI (by unfold atI; rw [if_pos (by omega)])) rfl
  ·try (cases h14; done)
   all_goals (try simp only [CQ] at h14)
   all_goals
   refine Tri.skip ?_
   have hx : i.toNat < l.length := by omega
   refine sZ [6] (fun P S K => XvIndexAddr P 22 (S.get 0) (S.get 1) (fun r2 _ => XvLoad P 3 (M S.hp S.nx) r2 (fun r3 _ => XvFnIV P (M S.hp S.nx) (.fn 35 []) [r3, (S.get 2)] (fun r5 ef5 => K ⟨[(6, r5)], (Eff.hp ef5 S.nx S.hp), (S.nx + ef5.add.length), S.gh⟩)))) fun K hK => ?_
   repeat' (first | (refine hK _ ?_; clear hK K) | refine And.intro ?_ ?_ | exact cl | refine .inl ⟨_, _, Around_pure _ _ (hl.1 _ (li_mem (by omega))) hm, ?_⟩ | (refine st ?_; try simp only [getD_encI hx]))
   all_goals
   refine Tri.ret ?_
   show ResOk _ _ _ _
   exact ResOk.val (aI (by unfold atI; rw [if_neg (by omega)])) rfl
theorem drop_li {l : List Int} {k : Nat} (h : k < l.length) : l.drop k = li l k :: l.drop (k + 1) := by
  have : li l k = l[k] := by simp [li, List.getD_eq_getElem?_getD, h]
  rw [this]; exact List.drop_eq_getElem_cons h
end Go.Proofs.Ytcdeilgijleoaaa
