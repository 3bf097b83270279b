/-
  Plain values of numbers and texts; small rules for the reckoning.
-/
import Derived.Test.YtfnkciboencifaaDoorPV16
set_option linter.all false
namespace Go.Proofs.YtfnkciboencifaaDoor
open Go Go.RowKit

theorem flatB_junk : PV.junk.flatB = true := rfl
theorem flatB_atom (v : Value) : (PV.atom v).flatB = true := rfl
theorem flatB_ob (i sz off len : Nat) : (PV.ob i sz off len).flatB = true := rfl
theorem flatB_ptr (i sz k c : Nat) : (PV.ptr i sz k c).flatB = true := rfl
theorem flatB_agg (l : List PV) : (PV.agg l).flatB = flatL l := by simp only [PV.flatB]
theorem flatB_tup (l : List PV) : (PV.tup l).flatB = flatL l := by simp only [PV.flatB]
theorem flatB_fn (f : FuncId) (l : List PV) : (PV.fn f l).flatB = flatL l := by simp only [PV.flatB]
theorem flatB_sl0 (sz : Nat) : (PV.sl sz []).flatB = true := rfl
theorem flatL_nil : flatL [] = true := rfl
theorem flatL_cons (p : PV) (l : List PV) : flatL (p :: l) = (p.flatB && flatL l) := rfl
def encI (n : Int) : PV := .atom (.int .i64 n)
def encS (s : ByteArray) : PV := .atom (.string s)
def ints (l : List Int) : PV := .sl 1 (l.map encI)
def strs (l : List ByteArray) : PV := .sl 1 (l.map encS)

/-- Elements by number. -/
def li (l : List Int) (i : Nat) : Int := l.getD i 0
def ls (l : List ByteArray) (i : Nat) : ByteArray := l.getD i ByteArray.empty

theorem getD_encI {l : List Int} {k : Nat} (h : k < l.length) : (l.map encI).getD k .junk = encI (li l k) := by
  simp [li, List.getD_eq_getElem?_getD, h]
theorem pureL_map {α : Type} (f : α → PV) (h : ∀ x, (f x).pure = true) (l : List α) : pureL (l.map f) = true := by
  rw [pureL_all, List.all_map]; exact List.all_eq_true.2 fun x _ => h x
theorem pure_ints (l : List Int) : (ints l).pure = true := pureL_map encI (fun _ => rfl) l
theorem pure_strs (l : List ByteArray) : (strs l).pure = true := pureL_map encS (fun _ => rfl) l
theorem ren_ints (ρ : Nat → Nat) (l : List Int) : (ints l).ren ρ = ints l := ren_pure ρ _ (pure_ints l)
theorem ren_strs (ρ : Nat → Nat) (l : List ByteArray) : (strs l).ren ρ = strs l := ren_pure ρ _ (pure_strs l)
theorem wrap_id {x : Int} (h0 : -9223372036854775808 ≤ x) (h1 : x ≤ 9223372036854775807) : IntKind.i64.wrap x = x := by rw [IntKind.wrap_i64]; omega

/-- The same by the same numbers: nothing of one's own is there. -/
theorem Leq.plain {S S' : St} (he : ∀ p, p ∈ S'.env → S.get p.1 = p.2 ∧ p.2.pure = true) (hh : S'.hp = []) (hn : S'.nx = 0) (hg : S'.gh = []) (hg2 : S.gh = []) : Leq [] S S' :=
  ⟨0, fun p hp => by rw [ren_pure _ _ (he p hp).2]; exact (he p hp).1, fun p hp => (by rw [hh] at hp; cases hp), hn, List.nodup_nil, by rw [hg, hg2], fun i h => (by rw [hg] at h; cases h)⟩

mutual
theorem pure_noOb : ∀ p : PV, p.pure = true → p.noOb = true
  | .junk, _ => rfl
  | .atom _, _ => rfl
  | .agg l, h => by simp only [PV.pure] at h; simp only [PV.noOb, pureL_noObL l h]
  | .tup l, h => by simp only [PV.pure] at h; simp only [PV.noOb, pureL_noObL l h]
  | .sl _ l, _ => rfl
  | .own _ _, h => by cases h
  | .ob _ _ _ _, h => by cases h
  | .ptr _ _ _ _, h => by cases h
  | .fptr _ l _ _, _ => rfl
  | .fn _ l, h => by simp only [PV.pure] at h; simp only [PV.noOb, pureL_noObL l h]
theorem pureL_noObL : ∀ l : List PV, pureL l = true → noObL l = true
  | [], _ => rfl
  | p :: l, h => by simp only [pureL, Bool.and_eq_true] at h; simp only [noObL, pure_noOb p h.1, pureL_noObL l h.2]; rfl
end
theorem sealed_pure (H : Nat → Option AO) (keep : Nat → Bool) (n : Nat) {p : PV} (h : p.pure = true) : sealed H keep n p = p := noOb_sealed H keep n p (pure_noOb p h)
theorem map_sealed_pure (H : Nat → Option AO) (keep : Nat → Bool) (n : Nat) {l : List PV} (h : pureL l = true) : l.map (sealed H keep n) = l := noObL_sealed H keep n l (pureL_noObL l h)
/-- A plain value is the same however it is looked at. -/
theorem sp {H : Nat → Option AO} {keep : Nat → Bool} {n : Nat} {ρ : Nat → Nat} {p : PV} (h : p.pure = true) : sealed H keep n p = p.ren ρ := (sealed_pure H keep n h).trans (ren_pure ρ p h).symm
theorem map_ren_pure (ρ : Nat → Nat) {l : List PV} (h : pureL l = true) : l.map (PV.ren ρ) = l := by
  have := renL_pure ρ l h
  rwa [renL_map] at this

theorem pureL_append (a b : List PV) : pureL (a ++ b) = (pureL a && pureL b) := by rw [pureL_all, pureL_all, pureL_all, List.all_append]
theorem pureL_encI (l : List Int) : pureL (l.map encI) = true := pureL_map encI (fun _ => rfl) l
theorem pureL_encS (l : List ByteArray) : pureL (l.map encS) = true := pureL_map encS (fun _ => rfl) l
theorem pureL_ints (l : List (List Int)) : pureL (l.map ints) = true := pureL_map ints pure_ints l
theorem pureL_strs (l : List (List ByteArray)) : pureL (l.map strs) = true := pureL_map strs pure_strs l
theorem map_sealed_encI (H : Nat → Option AO) (keep : Nat → Bool) (n : Nat) (l : List Int) : (l.map encI).map (sealed H keep n) = l.map encI := map_sealed_pure H keep n (pureL_encI l)
theorem map_sealed_encS (H : Nat → Option AO) (keep : Nat → Bool) (n : Nat) (l : List ByteArray) : (l.map encS).map (sealed H keep n) = l.map encS := map_sealed_pure H keep n (pureL_encS l)
theorem map_sealed_ints (H : Nat → Option AO) (keep : Nat → Bool) (n : Nat) (l : List (List Int)) : (l.map ints).map (sealed H keep n) = l.map ints := map_sealed_pure H keep n (pureL_ints l)
theorem map_sealed_strs (H : Nat → Option AO) (keep : Nat → Bool) (n : Nat) (l : List (List ByteArray)) : (l.map strs).map (sealed H keep n) = l.map strs := map_sealed_pure H keep n (pureL_strs l)
theorem map_ren_encI (ρ : Nat → Nat) (l : List Int) : (l.map encI).map (PV.ren ρ) = l.map encI := map_ren_pure ρ (pureL_encI l)
theorem map_ren_encS (ρ : Nat → Nat) (l : List ByteArray) : (l.map encS).map (PV.ren ρ) = l.map encS := map_ren_pure ρ (pureL_encS l)
theorem map_ren_ints (ρ : Nat → Nat) (l : List (List Int)) : (l.map ints).map (PV.ren ρ) = l.map ints := map_ren_pure ρ (pureL_ints l)
theorem map_ren_strs (ρ : Nat → Nat) (l : List (List ByteArray)) : (l.map strs).map (PV.ren ρ) = l.map strs := map_ren_pure ρ (pureL_strs l)
theorem renL_encI (ρ : Nat → Nat) (l : List Int) : renL ρ (l.map encI) = l.map encI := renL_pure ρ _ (pureL_encI l)
theorem renL_encS (ρ : Nat → Nat) (l : List ByteArray) : renL ρ (l.map encS) = l.map encS := renL_pure ρ _ (pureL_encS l)
theorem renL_ints (ρ : Nat → Nat) (l : List (List Int)) : renL ρ (l.map ints) = l.map ints := renL_pure ρ _ (pureL_ints l)
theorem renL_strs (ρ : Nat → Nat) (l : List (List ByteArray)) : renL ρ (l.map strs) = l.map strs := renL_pure ρ _ (pureL_strs l)
theorem one_encI (l : List Int) : ((l.map encI).all fun q => q.cells.all PV.one) = true := by rw [List.all_map]; exact List.all_eq_true.2 fun _ _ => rfl
theorem one_encS (l : List ByteArray) : ((l.map encS).all fun q => q.cells.all PV.one) = true := by rw [List.all_map]; exact List.all_eq_true.2 fun _ _ => rfl
theorem one_ints (l : List (List Int)) : ((l.map ints).all fun q => q.cells.all PV.one) = true := by rw [List.all_map]; exact List.all_eq_true.2 fun _ _ => rfl
theorem one_strs (l : List (List ByteArray)) : ((l.map strs).all fun q => q.cells.all PV.one) = true := by rw [List.all_map]; exact List.all_eq_true.2 fun _ _ => rfl
theorem wrap8_id {x : Int} (h0 : 0 ≤ x) (h1 : x ≤ 255) : IntKind.u8.wrap x = x := by rw [IntKind.wrap_u8]; omega
/-- One row of one's own as a part of the result. -/
theorem ResOk.one {S : St} {ts : List Nat} {r : PV} {o o' : AO} (i : Nat) (k : Nat) (h0 : S.obj i = some o') (hr : sealed S.obj (fun j => [i].contains j) k (retV S ts) = r.ren (rmap [i] S.nx)) (hs : o'.sz = o.sz)
    (he : o'.els.map (sealed S.obj (fun j => [i].contains j) k) = o.els.map (PV.ren (rmap [i] S.nx))) : ResOk S ts r [o] :=
  ⟨[i], k, rfl, by simp, hr, fun j ob hj => by
    cases j with
    | zero => obtain rfl : o = ob := by simpa using hj
              exact ⟨o', h0, hs, he⟩
    | succ j => simp at hj⟩
theorem ResOk.two {S : St} {ts : List Nat} {r : PV} {o o' u u' : AO} (i j : Nat) (k : Nat) (hij : i ≠ j) (h0 : S.obj i = some o') (h1 : S.obj j = some u') (hr : sealed S.obj (fun x => [i, j].contains x) k (retV S ts) = r.ren (rmap [i, j] S.nx))
    (hs : o'.sz = o.sz) (hs2 : u'.sz = u.sz)
    (he : o'.els.map (sealed S.obj (fun x => [i, j].contains x) k) = o.els.map (PV.ren (rmap [i, j] S.nx))) (he2 : u'.els.map (sealed S.obj (fun x => [i, j].contains x) k) = u.els.map (PV.ren (rmap [i, j] S.nx))) : ResOk S ts r [o, u] :=
  ⟨[i, j], k, rfl, by simp [hij], hr, fun n ob hn => by
    match n with
    | 0 => obtain rfl : o = ob := by simpa using hn
           exact ⟨o', h0, hs, he⟩
    | 1 => obtain rfl : u = ob := by simpa using hn
           exact ⟨u', h1, hs2, he2⟩
    | n + 2 => simp at hn⟩
/-- One row of one's own, of plain elements. -/
theorem ResOk.row {S : St} {ts : List Nat} {r : PV} {sz : Nat} {els els' : List PV} (i : Nat) (h0 : S.obj i = some ⟨sz, els⟩) (he : els = els') (hp : pureL els' = true) (hr : sealed S.obj (fun j => [i].contains j) 4 (retV S ts) = r.ren (rmap [i] S.nx)) : ResOk S ts r [⟨sz, els'⟩] := by
  subst he
  exact ResOk.one i 4 h0 hr rfl (by rw [map_sealed_pure _ _ _ hp, map_ren_pure _ hp])

/-- What a row of plain elements is behind the change of numbers. -/
theorem LeqS.row {S : St} {L : List Nat} {i k sz : Nat} {els els' : List PV} (h0 : S.obj (rmap L S.nx i) = some ⟨sz, els⟩) (he : els = els') (hp : pureL els' = true) :
    ∃ o', S.obj (rmap L S.nx i) = some o' ∧ o'.sz = (AO.mk sz els').sz ∧ o'.els.map (sealed S.obj (fun i => L.contains i) k) = (AO.mk sz els').els.map (PV.ren (rmap L S.nx)) :=
  ⟨_, h0, rfl, by subst he; show els.map _ = els.map _; rw [map_sealed_pure _ _ _ hp, map_ren_pure _ hp]⟩
@[congr] theorem Tri.congr {P : Program} {n : Nat} {c : Code} {S S' : St} {Q : Exit → St → Prop} (h : S = S') : Tri P n c S Q = Tri P n c S' Q := by rw [h]
/-- Nil, seen as an own row that is empty and stands nowhere. -/
def St.born (S : St) (d sz : Nat) : St := ⟨(d, .ob S.nx sz 0 0) :: S.env, (S.nx, some ⟨sz, []⟩) :: S.hp, S.nx + 1, S.gh⟩
theorem nil_val {D : Nat → Prop} {μ : Nat → Option Nat} {F : Nat → Prop} {w : World} {v : Value} (h : Rep D μ F w (.atom (.slice none 0 0)) v) : v = .slice none 0 0 := by cases h; rfl
theorem Tri.born {P : Program} {n : Nat} {c : Code} {S : St} {Q : Exit → St → Prop} (d sz : Nat) (h : S.get d = .atom (.slice none 0 0)) (ht : Tri P n c (S.born d sz) Q) : Tri P n c S Q := fun w0 F0 D μ F G a w hS => by
  have hn : ¬ D S.nx := fun hd => Nat.lt_irrefl _ (hS.ids _ hd)
  have hold := also_ok (D := D) (μ := μ) (none : Option Nat) hn
  refine ht w0 F0 (also D S.nx) (upd μ S.nx none) F G a w ⟨hS.defers, hS.size, fun s => ?_, ?_, fun i hi => ?_, hS.ghl, fun i hi => ?_⟩
  · show Rep _ _ _ _ ((lk ((d, .ob S.nx sz 0 0) :: S.env) s).getD .junk) _
    unfold lk
    split
    · rename_i hs
      subst hs
      have := hS.env d
      rw [h] at this
      rw [nil_val this]
      exact .obn S.nx sz (.inr rfl) (upd_same ..)
    · exact (hS.env s).stay (Stay.refl _ _) hold (fun _ h => h)
  · have := HeapSim.add hS.heap S.nx hn ⟨sz, []⟩ none (Stay.refl _ _) hS.heap.ext (Nat.le_refl _) rfl (fun b hb => by cases hb) (fun _ _ _ _ _ => rfl)
    have e : (S.born d sz).obj = upd S.obj S.nx (some ⟨sz, []⟩) := by
      funext i
      show (lk ((S.nx, some ⟨sz, []⟩) :: S.hp) i).join = _
      unfold lk upd
      by_cases hi : S.nx = i
      · rw [if_pos hi, if_pos hi.symm]; rfl
      · rw [if_neg hi, if_neg (Ne.symm hi)]; rfl
    rw [e]; exact this
  · rcases hi with hi | rfl
    · exact Nat.lt_succ_of_lt (hS.ids i hi)
    · exact Nat.lt_succ_self _
  · exact (hS.gh i hi).stay (Stay.refl _ _) hold (fun _ h => h)
/-- Nil, seen as a frozen row. -/
theorem Tri.asSl {P : Program} {n : Nat} {c : Code} {S : St} {Q : Exit → St → Prop} (d sz : Nat) (h : S.get d = .atom (.slice none 0 0)) (ht : Tri P n c (S.known d (.sl sz [])) Q) : Tri P n c S Q := fun w0 F0 D μ F G a w hS => by
  refine ht w0 F0 D μ F G a w ⟨hS.defers, hS.size, fun s => ?_, hS.heap, hS.ids, hS.ghl, hS.gh⟩
  show Rep _ _ _ _ ((lk ((d, .sl sz []) :: S.env) s).getD .junk) _
  unfold lk
  split
  · rename_i hs
    subst hs
    have := hS.env d
    rw [h] at this
    rw [nil_val this]
    exact .sl0 sz none 0 (by unfold maxLen; omega) (fun _ => rfl) (fun x hx => by cases hx)
  · exact hS.env s
/-- A result of frozen rows. -/
theorem ResOk.frz {S : St} {ts : List Nat} {r : PV} (k : Nat) (hr : sealed S.obj (fun _ => false) k (retV S ts) = r) (hp : r.pure = true) : ResOk S ts r [] :=
  ⟨[], k, rfl, List.nodup_nil, by rw [ren_pure _ r hp]; exact hr, fun i o hi => by simp at hi⟩
theorem take_map_len {α : Type} (f : α → PV) (l : List α) : (l.map f).take l.length = l.map f := by rw [List.take_of_length_le]; simp
theorem seal_row {H : Nat → Option AO} {keep : Nat → Bool} {k i sz n : Nat} {els : List PV} (hi : H i = some ⟨sz, els⟩) (hk : keep i = false) (hn : n = els.length) (hp : pureL els = true) : sealed H keep (k + 1) (.ob i sz 0 n) = .sl sz els := by
  simp only [sealed, hk, hi, hn]
  simp only [Bool.false_eq_true, if_false, Nat.zero_add, Nat.le_refl, and_self, if_true, List.drop_zero, List.take_length, map_sealed_pure _ _ _ hp]
theorem one_take {l : List PV} (h : (l.all fun q => q.cells.all PV.one) = true) (n : Nat) : ((l.take n).all fun q => q.cells.all PV.one) = true := by
  rw [List.all_eq_true] at h ⊢
  exact fun x hx => h x (List.mem_of_mem_take hx)
theorem one_drop {l : List PV} (h : (l.all fun q => q.cells.all PV.one) = true) (n : Nat) : ((l.drop n).all fun q => q.cells.all PV.one) = true := by
  rw [List.all_eq_true] at h ⊢
  exact fun x hx => h x (List.mem_of_mem_drop hx)
@[congr] theorem trOk.congr {nx nx' : Nat} {D : List (List Nat)} {tr tr' : List Tr} (h : nx = nx') (h2 : tr = tr') : trOk nx D tr = trOk nx' D tr' := by rw [h, h2]
/- What stands in a slot, looked up from the newest row on. -/
theorem get_known_hit {S : St} {d : Nat} {p : PV} : (S.known d p).get d = p := by simp [St.known, St.get, lk]
theorem get_known_miss {S : St} {d s : Nat} {p : PV} (h : d ≠ s) : (S.known d p).get s = S.get s := by simp [St.known, St.get, lk, h]
theorem get_born_hit {S : St} {d sz : Nat} : (S.born d sz).get d = .ob S.nx sz 0 0 := by simp [St.born, St.get, lk]
theorem get_born_miss {S : St} {d sz s : Nat} (h : d ≠ s) : (S.born d sz).get s = S.get s := by simp [St.born, St.get, lk, h]
theorem get_mk_hit {i : Nat} {x : PV} {t : List (Nat × PV)} {hp : List (Nat × Option AO)} {nx : Nat} {gh : List PV} : St.get ⟨(i, x) :: t, hp, nx, gh⟩ i = x := by simp [St.get, lk]
theorem get_mk_miss {i s : Nat} {x : PV} {t : List (Nat × PV)} {hp : List (Nat × Option AO)} {nx : Nat} {gh : List PV} (h : i ≠ s) : St.get ⟨(i, x) :: t, hp, nx, gh⟩ s = St.get ⟨t, hp, nx, gh⟩ s := by simp [St.get, lk, h]
theorem get_mk_nil {s : Nat} {hp : List (Nat × Option AO)} {nx : Nat} {gh : List PV} : St.get ⟨[], hp, nx, gh⟩ s = .junk := rfl
/- The reckoning does not look at what stands behind an operation before it has come there. -/
@[congr] theorem xGuard.cong {ops : Array Oper} {S S' : St} {o : Oper} {run skip : St → Prop} (h : S = S') : xGuard ops S o run skip = xGuard ops S' o run skip := by subst h; rfl
@[congr] theorem xOps.cong {P : Program} {ops : Array Oper} {l : List Oper} {S S' : St} {K : St → Prop} (h : S = S') : xOps P ops l S K = xOps P ops l S' K := by subst h; rfl
@[congr] theorem xOpsT.cong {P : Program} {ops : Array Oper} {l : List Oper} {S S' : St} {tr tr' : List Tr} {K : St → List Tr → Prop} (h : S = S') (h2 : tr = tr') : xOpsT P ops l S tr K = xOpsT P ops l S' tr' K := by subst h h2; rfl
@[congr] theorem vop.cong {P : Program} {op : Op} {S S' : St} {K : PV → Eff → Prop} (h : S = S') : vop P op S K = vop P op S' K := by subst h; rfl
@[congr] theorem vLoad.cong {P : Program} {t : TypeId} {S S' : St} {a a' : PV} {K : PV → Eff → Prop} (h : S = S') (h2 : a = a') : vLoad P t S a K = vLoad P t S' a' K := by subst h h2; rfl
@[congr] theorem vStore.cong {P : Program} {t : TypeId} {S S' : St} {a a' v v' : PV} {K : PV → Eff → Prop} (h : S = S') (h2 : a = a') (h3 : v = v') : vStore P t S a v K = vStore P t S' a' v' K := by subst h h2 h3; rfl
@[congr] theorem vFieldAddr.cong {P : Program} {t : TypeId} {f : Nat} {a a' : PV} {K : PV → Eff → Prop} (h : a = a') : vFieldAddr P t f a K = vFieldAddr P t f a' K := by subst h; rfl
@[congr] theorem vField.cong {P : Program} {t : TypeId} {f : Nat} {a a' : PV} {K : PV → Eff → Prop} (h : a = a') : vField P t f a K = vField P t f a' K := by subst h; rfl
@[congr] theorem vIndexAddr.cong {P : Program} {t : TypeId} {a a' i i' : PV} {K : PV → Eff → Prop} (h : a = a') (h2 : i = i') : vIndexAddr P t a i K = vIndexAddr P t a' i' K := by subst h h2; rfl
@[congr] theorem vIndex.cong {P : Program} {t : TypeId} {a a' i i' : PV} {K : PV → Eff → Prop} (h : a = a') (h2 : i = i') : vIndex P t a i K = vIndex P t a' i' K := by subst h h2; rfl
@[congr] theorem vBin.cong {P : Program} {op : BinOp} {t : TypeId} {a a' b b' : PV} {K : PV → Eff → Prop} (h : a = a') (h2 : b = b') : vBin P op t a b K = vBin P op t a' b' K := by subst h h2; rfl
@[congr] theorem vSlice.cong {P : Program} {t : TypeId} {S S' : St} {a a' : PV} {lo hi : Option Operand} {K : PV → Eff → Prop} (h : S = S') (h2 : a = a') : vSlice P t S a lo hi K = vSlice P t S' a' lo hi K := by subst h h2; rfl
@[congr] theorem vBase.cong {S S' : St} {sz sz' : Nat} {a a' : PV} {K : List PV → List Nat → Prop} (h : S = S') (h1 : sz = sz') (h2 : a = a') : vBase S sz a K = vBase S' sz' a' K := by subst h h1 h2; rfl
@[congr] theorem vSrc.cong {S S' : St} {sz sz' : Nat} {a a' : PV} {K : List PV → List Nat → Prop} (h : S = S') (h1 : sz = sz') (h2 : a = a') : vSrc S sz a K = vSrc S' sz' a' K := by subst h h1 h2; rfl
@[congr] theorem vAppend.cong {P : Program} {t : TypeId} {S S' : St} {a a' b b' : PV} {K : PV → Eff → Prop} (h : S = S') (h2 : a = a') (h3 : b = b') : vAppend P t S a b K = vAppend P t S' a' b' K := by subst h h2 h3; rfl
@[congr] theorem vConvert.cong {P : Program} {t t2 : TypeId} {S S' : St} {a a' : PV} {K : PV → Eff → Prop} (h : S = S') (h2 : a = a') : vConvert P t t2 S a K = vConvert P t t2 S' a' K := by subst h h2; rfl
@[congr] theorem vMake.cong {P : Program} {t : TypeId} {S S' : St} {a a' b b' : PV} {K : PV → Eff → Prop} (h : S = S') (h2 : a = a') (h3 : b = b') : vMake P t S a b K = vMake P t S' a' b' K := by subst h h2 h3; rfl
@[congr] theorem vMinMax.cong {mx : Bool} {a a' b b' : PV} {K : PV → Eff → Prop} (h : a = a') (h2 : b = b') : vMinMax mx a b K = vMinMax mx a' b' K := by subst h h2; rfl
@[congr] theorem vLen.cong {P : Program} {t : TypeId} {a a' : PV} {K : PV → Eff → Prop} (h : a = a') : vLen P t a K = vLen P t a' K := by subst h; rfl
@[congr] theorem vopI.cong {P : Program} {op : Op} {S S' : St} {K : PV → Eff → Prop} (h : S = S') : vopI P op S K = vopI P op S' K := by subst h; rfl
@[congr] theorem vFnI.cong {P : Program} {S S' : St} {g g' : PV} {xs : List Operand} {K : PV → Eff → Prop} (h : S = S') (h2 : g = g') : vFnI P S g xs K = vFnI P S' g' xs K := by subst h h2; rfl
@[congr] theorem vProc.cong {P : Program} {S S' : St} {f : FuncId} {vals vals' : List PV} {K : PV → Eff → Prop} (h : S = S') (h2 : vals = vals') : vProc P S f vals K = vProc P S' f vals' K := by subst h h2; rfl
@[congr] theorem vFn.cong {P : Program} {S S' : St} {g g' : PV} {xs : List Operand} {K : PV → Eff → Prop} (h : S = S') (h2 : g = g') : vFn P S g xs K = vFn P S' g' xs K := by subst h h2; rfl
@[congr] theorem vBinO.cong {P : Program} {op : BinOp} {t : TypeId} {S S' : St} {x y : Operand} {K : PV → Eff → Prop} (h : S = S') : vBinO P op t S x y K = vBinO P op t S' x y K := by subst h; rfl
@[congr] theorem vCallO.cong {P : Program} {S S' : St} {c : Callee} {xs : List Operand} {ts : List TypeId} {K : PV → Eff → Prop} (h : S = S') : vCallO P S c xs ts K = vCallO P S' c xs ts K := by subst h; rfl
@[congr] theorem vMakeF.cong {S S' : St} {fn : Fn} {first cap : List Operand} {K : PV → Eff → Prop} (h : S = S') : vMakeF S fn first cap K = vMakeF S' fn first cap K := by subst h; rfl
@[congr] theorem vUn.cong {op : UnOp} {a a' : PV} {K : PV → Eff → Prop} (h : a = a') : vUn op a K = vUn op a' K := by subst h; rfl
theorem li_ext {a b : List Int} (h : a.length = b.length) (h2 : ∀ i, i < b.length → li a i = li b i) : a = b :=
  List.ext_getElem h fun i h1 h3 => by
    have := h2 i h3
    simpa [li, List.getD_eq_getElem?_getD, h1, h3] using this
theorem aB {p q : Bool} (h : p = q) : PV.atom (.bool p) = .atom (.bool q) := by rw [h]
theorem aI {k : IntKind} {p q : Int} (h : p = q) : PV.atom (.int k p) = .atom (.int k q) := by rw [h]
end Go.Proofs.YtfnkciboencifaaDoor

