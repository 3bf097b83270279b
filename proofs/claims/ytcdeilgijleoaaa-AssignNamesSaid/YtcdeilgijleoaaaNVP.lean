/-
  The clean machine: other numbers for own objects; own objects looked at as frozen ones; calls of functions that only compute.
-/
import Derived.Test.YtcdeilgijleoaaaNV7
set_option linter.all false
namespace Go.Proofs.Ytcdeilgijleoaaa
open Go Go.RowKit
mutual
def PV.ren (ρ : Nat → Nat) : PV → PV
  | .junk => .junk
  | .atom v => .atom v
  | .agg l => .agg (renL ρ l)
  | .tup l => .tup (renL ρ l)
  | .sl sz l => .sl sz (renL ρ l)
  | .own sz l => .own sz (renL ρ l)
  | .ob i sz off len => .ob (ρ i) sz off len
  | .ptr i sz k c => .ptr (ρ i) sz k c
  | .fptr sz l k c => .fptr sz (renL ρ l) k c
  | .fn f l => .fn f (renL ρ l)
def renL (ρ : Nat → Nat) : List PV → List PV
  | [] => []
  | p :: l => p.ren ρ :: renL ρ l
end
theorem renL_map (ρ : Nat → Nat) : ∀ l : List PV, renL ρ l = l.map (PV.ren ρ)
  | [] => rfl
  | p :: l => by rw [renL, renL_map ρ l]; rfl
theorem ren_cells (ρ : Nat → Nat) (p : PV) : (p.ren ρ).cells = p.cells.map (PV.ren ρ) := by
  cases p <;> simp [PV.ren, PV.cells, renL_map]
mutual
def PV.pure : PV → Bool
  | .junk | .atom _ => true
  | .agg l | .tup l | .sl _ l | .fptr _ l _ _ | .fn _ l => pureL l
  | .own _ _ | .ob _ _ _ _ | .ptr _ _ _ _ => false
def pureL : List PV → Bool
  | [] => true
  | p :: l => p.pure && pureL l
end
theorem pureL_all : ∀ l : List PV, pureL l = l.all PV.pure
  | [] => rfl
  | p :: l => by rw [pureL, pureL_all l]; rfl
theorem pure_cells {p : PV} (h : p.pure = true) : p.cells.all PV.pure = true := by
  cases p <;> simp_all [PV.cells, PV.pure, pureL_all]
mutual
def PV.flatB : PV → Bool
  | .junk | .atom _ | .ob _ _ _ _ | .ptr _ _ _ _ => true
  | .agg l | .tup l | .fn _ l => flatL l
  | .sl _ [] => true
  | .sl _ (_ :: _) | .fptr _ _ _ _ | .own _ _ => false
def flatL : List PV → Bool
  | [] => true
  | p :: l => p.flatB && flatL l
end
theorem flatL_all : ∀ l : List PV, flatL l = l.all PV.flatB
  | [] => rfl
  | p :: l => by rw [flatL, flatL_all l]; rfl
mutual
def PV.noOb : PV → Bool
  | .junk | .atom _ | .sl _ _ | .fptr _ _ _ _ => true
  | .agg l | .tup l | .fn _ l => noObL l
  | .ob _ _ _ _ | .ptr _ _ _ _ | .own _ _ => false
def noObL : List PV → Bool
  | [] => true
  | p :: l => p.noOb && noObL l
end
theorem noObL_all : ∀ l : List PV, noObL l = l.all PV.noOb
  | [] => rfl
  | p :: l => by rw [noObL, noObL_all l]; rfl
section
variable {P : Program} {w0 : Home} {F0 D D' : Nat → Prop} {μ μ' : Nat → Option Nat} {F F' : Nat → Prop} {H : Nat → Option AO} {w w' : World}
theorem getElem_map' (f : PV → PV) (l : List PV) (k : Nat) (h : k < (l.map f).length) : (l.map f)[k] = f (l[k]'(by simpa using h)) := by simp
theorem Rep.ren {p : PV} {v : Value} {ρ : Nat → Nat} (h : Rep D μ F w p v) (hD : ∀ i, D i → D' (ρ i) ∧ μ' (ρ i) = μ i) : Rep D' μ' F w (p.ren ρ) v := by
  induction h with
  | junk v => exact .junk v
  | atom v => exact .atom v
  | agg l vs h1 _ ih => simp only [PV.ren, renL_map]; exact .agg _ vs (by simpa using h1) (fun i hi => by rw [getElem_map']; exact ih i (by simpa using hi))
  | tup l vs h1 _ ih => simp only [PV.ren, renL_map]; exact .tup _ vs (by simpa using h1) (fun i hi => by rw [getElem_map']; exact ih i (by simpa using hi))
  | sl0 sz a cap h1 h2 h3 => simp only [PV.ren, renL_map, List.map_nil]; exact .sl0 sz a cap h1 h2 h3
  | sl sz l b off cap g h1 h2 h3 h4 h5 _ ih =>
    simp only [PV.ren, renL_map]
    have := Rep.sl (D := D') (μ := μ') (F := F) (w := w) sz (l.map (PV.ren ρ)) b off cap g h1 (by simpa using h2) h3 (by simpa using h4) (fun k hk => by rw [getElem_map', ren_cells, List.length_map]; exact h5 k (by simpa using hk))
      (fun k hk c hc => by
        have hk' : k < l.length := by simpa using hk
        have hc' : c < l[k].cells.length := by rw [getElem_map', ren_cells, List.length_map] at hc; exact hc
        have e : (l.map (PV.ren ρ))[k].cells[c] = (l[k].cells[c]).ren ρ := by simp [ren_cells]
        rw [e]; exact ih k hk' c hc')
    simpa using this
  | ob i sz off len cap b h1 hb h2 h3 h4 => exact .ob _ sz off len cap b (hD i h1).1 ((hD i h1).2.trans hb) h2 h3 h4
  | obn i sz h1 hb => exact .obn _ sz (hD i h1).1 ((hD i h1).2.trans hb)
  | ptr i sz k c b h1 hb => exact .ptr _ sz k c b (hD i h1).1 ((hD i h1).2.trans hb)
  | fptr sz l k c b off g h1 h2 h3 _ ih =>
    simp only [PV.ren, renL_map]
    exact .fptr sz (l.map (PV.ren ρ)) k c b off g h1 (by simpa using h2) (fun k hk => by rw [getElem_map', ren_cells, List.length_map]; exact h3 k (by simpa using hk))
      (fun k hk c hc => by
        have hk' : k < l.length := by simpa using hk
        have hc' : c < l[k].cells.length := by rw [getElem_map', ren_cells, List.length_map] at hc; exact hc
        have e : (l.map (PV.ren ρ))[k].cells[c] = (l[k].cells[c]).ren ρ := by simp [ren_cells]
        rw [e]; exact ih k hk' c hc')
  | fn f cap vs h1 _ ih => simp only [PV.ren, renL_map]; exact .fn f _ vs (by simpa using h1) (fun i hi => by rw [getElem_map']; exact ih i (by simpa using hi))
theorem Rep.ren_inv {q : PV} {v : Value} {ρ : Nat → Nat} (h : Rep D μ F w q v) (hD : ∀ i, D (ρ i) → D' i ∧ μ' i = μ (ρ i)) : ∀ p : PV, p.ren ρ = q → Rep D' μ' F w p v := by
  induction h with
  | junk v => intro p hp; cases p <;> simp only [PV.ren] at hp <;> cases hp; exact .junk v
  | atom v => intro p hp; cases p <;> simp only [PV.ren] at hp <;> cases hp; exact .atom v
  | agg l vs h1 _ ih =>
    intro p hp; cases p <;> simp only [PV.ren, renL_map] at hp <;> cases hp
    exact .agg _ vs (by simpa using h1) (fun i hi => ih i (by simpa using hi) _ (by rw [getElem_map']))
  | tup l vs h1 _ ih =>
    intro p hp; cases p <;> simp only [PV.ren, renL_map] at hp <;> cases hp
    exact .tup _ vs (by simpa using h1) (fun i hi => ih i (by simpa using hi) _ (by rw [getElem_map']))
  | sl0 sz a cap h1 h2 h3 =>
    intro p hp
    cases p <;> simp only [PV.ren, renL_map] at hp <;> try (cases hp; done)
    simp only [PV.sl.injEq, List.map_eq_nil_iff] at hp
    obtain ⟨rfl, rfl⟩ := hp
    exact .sl0 _ a cap h1 h2 h3
  | sl sz l b off cap g h1 h2 h3 h4 h5 _ ih =>
    intro p hp; cases p <;> simp only [PV.ren, renL_map] at hp <;> try (cases hp; done)
    rename_i sz' l'
    simp only [PV.sl.injEq] at hp
    obtain ⟨rfl, rfl⟩ := hp
    have := Rep.sl (D := D') (μ := μ') (F := F) (w := w) sz' l' b off cap g h1 (by simpa using h2) h3 (by simpa using h4)
      (fun k hk => by have := h5 k (by simpa using hk); rwa [getElem_map', ren_cells, List.length_map] at this)
      (fun k hk c hc => ih k (by simpa using hk) c (by rw [getElem_map', ren_cells, List.length_map]; exact hc) _ (by simp [ren_cells]))
    simpa using this
  | ob i sz off len cap b h1 hb h2 h3 h4 =>
    intro p hp; cases p <;> simp only [PV.ren] at hp <;> cases hp
    exact .ob _ sz off len cap b (hD _ h1).1 ((hD _ h1).2.trans hb) h2 h3 h4
  | obn i sz h1 hb =>
    intro p hp; cases p <;> simp only [PV.ren] at hp <;> cases hp
    exact .obn _ sz (hD _ h1).1 ((hD _ h1).2.trans hb)
  | ptr i sz k c b h1 hb =>
    intro p hp; cases p <;> simp only [PV.ren] at hp <;> cases hp
    exact .ptr _ sz k c b (hD _ h1).1 ((hD _ h1).2.trans hb)
  | fptr sz l k c b off g h1 h2 h3 _ ih =>
    intro p hp; cases p <;> simp only [PV.ren, renL_map] at hp <;> try (cases hp; done)
    rename_i sz' l' k' c'
    simp only [PV.fptr.injEq] at hp
    obtain ⟨rfl, rfl, rfl, rfl⟩ := hp
    exact .fptr sz' l' k' c' b off g h1 (by simpa using h2) (fun k hk => by have := h3 k (by simpa using hk); rwa [getElem_map', ren_cells, List.length_map] at this)
      (fun k hk c hc => ih k (by simpa using hk) c (by rw [getElem_map', ren_cells, List.length_map]; exact hc) _ (by simp [ren_cells]))
  | fn f cap vs h1 _ ih =>
    intro p hp; cases p <;> simp only [PV.ren, renL_map] at hp <;> cases hp
    exact .fn f _ vs (by simpa using h1) (fun i hi => ih i (by simpa using hi) _ (by rw [getElem_map']))
theorem all_get {f : PV → Bool} {l : List PV} (h : l.all f = true) (i : Nat) (hi : i < l.length) : f l[i] = true := List.all_eq_true.1 h _ (List.getElem_mem hi)
theorem Rep.pureAny {p : PV} {v : Value} (h : Rep D μ F w p v) (hp : p.pure = true) : Rep D' μ' F w p v := by
  induction h with
  | junk v => exact .junk v
  | atom v => exact .atom v
  | agg l vs h1 _ ih => simp only [PV.pure, pureL_all] at hp; exact .agg _ vs h1 (fun i hi => ih i hi (all_get hp i hi))
  | tup l vs h1 _ ih => simp only [PV.pure, pureL_all] at hp; exact .tup _ vs h1 (fun i hi => ih i hi (all_get hp i hi))
  | sl0 sz a cap h1 h2 h3 => exact .sl0 sz a cap h1 h2 h3
  | sl sz l b off cap g h1 h2 h3 h4 h5 _ ih => simp only [PV.pure, pureL_all] at hp; exact .sl sz l b off cap g h1 h2 h3 h4 h5 (fun k hk c hc => ih k hk c hc (all_get (pure_cells (all_get hp k hk)) c hc))
  | ob i sz off len cap b h1 hb h2 h3 h4 => cases hp
  | obn i sz h1 hb => cases hp
  | ptr i sz k c b h1 hb => cases hp
  | fptr sz l k c b off g h1 h2 h3 _ ih => simp only [PV.pure, pureL_all] at hp; exact .fptr sz l k c b off g h1 h2 h3 (fun k hk c hc => ih k hk c hc (all_get (pure_cells (all_get hp k hk)) c hc))
  | fn f cap vs h1 _ ih => simp only [PV.pure, pureL_all] at hp; exact .fn f _ vs h1 (fun i hi => ih i hi (all_get hp i hi))
theorem Rep.flatAny {p : PV} {v : Value} (h : Rep D μ F w p v) (hp : p.flatB = true) : Rep D μ F' w p v := by
  induction h with
  | junk v => exact .junk v
  | atom v => exact .atom v
  | agg l vs h1 _ ih => simp only [PV.flatB, flatL_all] at hp; exact .agg _ vs h1 (fun i hi => ih i hi (all_get hp i hi))
  | tup l vs h1 _ ih => simp only [PV.flatB, flatL_all] at hp; exact .tup _ vs h1 (fun i hi => ih i hi (all_get hp i hi))
  | sl0 sz a cap h1 h2 h3 => exact .sl0 sz a cap h1 h2 h3
  | sl sz l b off cap g h1 h2 h3 h4 h5 _ ih =>
    cases l with
    | nil => exact .sl0 sz _ cap h3 (fun e => by cases e) (fun x hx => by cases hx; rfl)
    | cons a l => cases hp
  | ob i sz off len cap b h1 hb h2 h3 h4 => exact .ob i sz off len cap b h1 hb h2 h3 h4
  | obn i sz h1 hb => exact .obn i sz h1 hb
  | ptr i sz k c b h1 hb => exact .ptr i sz k c b h1 hb
  | fptr sz l k c b off g h1 h2 h3 _ ih => cases hp
  | fn f cap vs h1 _ ih => simp only [PV.flatB, flatL_all] at hp; exact .fn f _ vs h1 (fun i hi => ih i hi (all_get hp i hi))
theorem flat_cells {p : PV} (h : p.flatB = true) : p.cells.all PV.flatB = true := by
  cases p with
  | agg l => simpa [PV.cells, PV.flatB, flatL_all] using h
  | _ => simpa [PV.cells] using h
theorem gl {a b : List PV} (h : a = b) {c : Nat} (hc : c < a.length) : a[c] = b[c]'(by rw [← h]; exact hc) := by subst h; rfl
def sealed (H : Nat → Option AO) (keep : Nat → Bool) : Nat → PV → PV
  | 0, p => p
  | n + 1, .agg l => .agg (l.map (sealed H keep n))
  | n + 1, .tup l => .tup (l.map (sealed H keep n))
  | n + 1, .fn f l => .fn f (l.map (sealed H keep n))
  | n + 1, .ob i sz off len => if keep i then .ob i sz off len else match H i with
    | some o => if o.sz = sz ∧ off + len ≤ o.els.length then .sl sz (((o.els.drop off).take len).map (sealed H keep n)) else .junk
    | none => .junk
  | n + 1, .ptr i sz k c => if keep i then .ptr i sz k c else match H i with
    | some o => if o.sz = sz then .fptr sz (o.els.map (sealed H keep n)) k c else .junk
    | none => .junk
  | _ + 1, p => p
theorem sealed_cells (H : Nat → Option AO) (keep : Nat → Bool) (n : Nat) (p : PV) : (∃ l, p = .agg l ∧ n ≠ 0) ∨ (sealed H keep n p).cells = p.cells ∧ n = 0 ∨ (p.cells = [p] ∧ (sealed H keep n p).cells = [sealed H keep n p]) := by
  cases n with
  | zero => exact .inr (.inl ⟨rfl, rfl⟩)
  | succ n =>
    cases p <;> first
      | exact .inl ⟨_, rfl, by omega⟩
      | exact .inr (.inr ⟨rfl, rfl⟩)
      | (refine .inr (.inr ⟨rfl, ?_⟩); simp only [sealed]; split <;> first | rfl | (split <;> first | rfl | (split <;> rfl)))
theorem sealed_len (H : Nat → Option AO) (keep : Nat → Bool) (n : Nat) (p : PV) : (sealed H keep n p).cells.length = p.cells.length := by
  rcases sealed_cells H keep n p with ⟨l, rfl, hn⟩ | ⟨h, _⟩ | ⟨h1, h2⟩
  · obtain ⟨m, rfl⟩ : ∃ m, n = m + 1 := ⟨n - 1, by omega⟩
    simp [sealed, PV.cells]
  · rw [h]
  · rw [h1, h2]; rfl
theorem Rep.sealed (hH : HeapSim w0 F0 D μ F H w) (keep : Nat → Bool) (F2 : Nat → Prop) (hF : ∀ b, F b → F2 b) (hO : ∀ i o b, keep i = false → H i = some o → μ i = some b → F2 b) :
    ∀ (n : Nat) (p : PV) (v : Value), Rep D μ F w p v → Rep D μ F2 w (sealed H keep n p) v := by
  intro n
  induction n using Nat.strongRecOn with
  | _ n ih =>
    intro p v h
    have same : Rep D μ F2 w p v := h.stay (Stay.refl _ _) (fun _ h => ⟨h, rfl⟩) hF
    cases n with
    | zero => exact same
    | succ n =>
      cases h with
      | junk => exact same
      | atom => exact same
      | agg l vs h1 h2 => exact .agg _ vs (by simpa using h1) (fun i hi => by rw [getElem_map']; exact ih n (by omega) _ _ (h2 i (by simpa using hi)))
      | tup l vs h1 h2 => exact .tup _ vs (by simpa using h1) (fun i hi => by rw [getElem_map']; exact ih n (by omega) _ _ (h2 i (by simpa using hi)))
      | fn f l vs h1 h2 => exact .fn f _ vs (by simpa using h1) (fun i hi => by rw [getElem_map']; exact ih n (by omega) _ _ (h2 i (by simpa using hi)))
      | sl0 => exact same
      | sl => exact same
      | fptr => exact same
      | ptr i sz k c b h1 hb =>
        simp only [Go.Proofs.Ytcdeilgijleoaaa.sealed]
        split
        · exact same
        · rename_i hk
          have hk' : keep i = false := by simpa using hk
          split
          · rename_i o ho
            split
            · rename_i hsz
              obtain ⟨A, e, a1, a2, a3, a4⟩ := hH.ok ho hb
              rw [hsz] at a2 a3
              have hgk : ∀ k (hk : k < (o.els.map (Go.Proofs.Ytcdeilgijleoaaa.sealed H keep n)).length), (o.els.map (Go.Proofs.Ytcdeilgijleoaaa.sealed H keep n))[k] = Go.Proofs.Ytcdeilgijleoaaa.sealed H keep n (o.els[k]'(by simpa using hk)) := fun k hk => by simp
              have := Rep.fptr (D := D) (μ := μ) (F := F2) (w := w) sz (o.els.map (Go.Proofs.Ytcdeilgijleoaaa.sealed H keep n)) k c b 0 (fun j => A.getD j undef) (hO i o b hk' ho hb)
                (fun j hj => by
                  simp only [World.cell?, a1, Nat.zero_add]
                  exact getD_lt (by simp at hj; omega))
                (fun k hk => by rw [hgk k hk, sealed_len]; exact a3 _ _)
                (fun k hk c hc => by
                  have hk2 : k < o.els.length := by simpa using hk
                  have hc2 : c < (o.els[k]).cells.length := by rw [hgk k hk, sealed_len] at hc; exact hc
                  have hr := a4 k hk2 c hc2
                  rw [hsz] at hr
                  rcases sealed_cells H keep n (o.els[k]) with ⟨l, hl, hn⟩ | ⟨hs, hn⟩ | ⟨g1, g2⟩
                  · obtain ⟨m, rfl⟩ : ∃ m, n = m + 1 := ⟨n - 1, by omega⟩
                    have e2 : (o.els.map (Go.Proofs.Ytcdeilgijleoaaa.sealed H keep (m + 1)))[k].cells[c] = Go.Proofs.Ytcdeilgijleoaaa.sealed H keep m ((o.els[k]).cells[c]) := by
                      have e3 : (o.els.map (Go.Proofs.Ytcdeilgijleoaaa.sealed H keep (m + 1)))[k].cells = (l.map (Go.Proofs.Ytcdeilgijleoaaa.sealed H keep m)) := by rw [hgk k hk, hl]; rfl
                      have e4 : (o.els[k]).cells = l := by rw [hl]; rfl
                      exact (gl e3 hc).trans (by rw [List.getElem_map]; congr 1; exact (gl e4 hc2).symm)
                    rw [e2]
                    exact ih m (by omega) _ _ hr
                  · subst hn
                    have e2 : (o.els.map (Go.Proofs.Ytcdeilgijleoaaa.sealed H keep 0))[k].cells[c] = (o.els[k]).cells[c] := by
                      have : (o.els.map (Go.Proofs.Ytcdeilgijleoaaa.sealed H keep 0))[k] = o.els[k] := by rw [hgk k hk]; rfl
                      simp only [this]
                    rw [e2]
                    exact hr.stay (Stay.refl _ _) (fun _ h => ⟨h, rfl⟩) hF
                  · have hc0 : c = 0 := by rw [g1] at hc2; simpa using hc2
                    subst hc0
                    have e2 : (o.els.map (Go.Proofs.Ytcdeilgijleoaaa.sealed H keep n))[k].cells[0] = Go.Proofs.Ytcdeilgijleoaaa.sealed H keep n (o.els[k]) := by
                      have e3 : (o.els.map (Go.Proofs.Ytcdeilgijleoaaa.sealed H keep n))[k].cells = [Go.Proofs.Ytcdeilgijleoaaa.sealed H keep n (o.els[k])] := by rw [hgk k hk, g2]
                      simp only [e3, List.getElem_cons_zero]
                    have e5 : (o.els[k]).cells[0] = o.els[k] := by simp only [g1, List.getElem_cons_zero]
                    rw [e2]
                    rw [e5] at hr
                    exact ih n (by omega) _ _ hr)
              simpa using this
            · exact .junk _
          · exact .junk _
      | obn i sz h1 h2 =>
        simp only [Go.Proofs.Ytcdeilgijleoaaa.sealed]
        split
        · exact same
        · split
          · split
            · simp only [List.take_zero, List.map_nil]
              exact .sl0 sz none 0 (by unfold maxLen; omega) (fun _ => rfl) (fun x hx => by cases hx)
            · exact .junk _
          · exact .junk _
      | ob i sz off len cap b h1 hb h2 h3 h4 =>
        simp only [Go.Proofs.Ytcdeilgijleoaaa.sealed]
        split
        · exact same
        · rename_i hk
          have hk' : keep i = false := by simpa using hk
          split
          · rename_i o ho
            split
            · rename_i hc
              obtain ⟨hsz, hle⟩ := hc
              obtain ⟨A, e, a1, a2, a3, a4⟩ := hH.ok ho hb
              rw [hsz] at a2 a3
              have hlen : (((o.els.drop off).take len).map (Go.Proofs.Ytcdeilgijleoaaa.sealed H keep n)).length = len := by simp; omega
              have hgk : ∀ k (hk : k < (((o.els.drop off).take len).map (Go.Proofs.Ytcdeilgijleoaaa.sealed H keep n)).length), (((o.els.drop off).take len).map (Go.Proofs.Ytcdeilgijleoaaa.sealed H keep n))[k] = Go.Proofs.Ytcdeilgijleoaaa.sealed H keep n (o.els[off + k]'(by simp at hk; omega)) := fun k hk => by simp
              have hz : ∀ k (hk : k < (((o.els.drop off).take len).map (Go.Proofs.Ytcdeilgijleoaaa.sealed H keep n)).length), (((o.els.drop off).take len).map (Go.Proofs.Ytcdeilgijleoaaa.sealed H keep n))[k].cells.length = sz := fun k hk => by rw [hgk k hk, sealed_len]; exact a3 _ _
              have := Rep.sl (D := D) (μ := μ) (F := F2) (w := w) sz (((o.els.drop off).take len).map (Go.Proofs.Ytcdeilgijleoaaa.sealed H keep n)) b (off * sz) cap (fun j => A.getD (off * sz + j) undef) (hO i o b hk' ho hb) (by rw [hlen]; exact h2) h3
                (fun j hj => by
                  rw [hlen] at hj
                  have : (off + len) * sz ≤ A.size := Nat.le_trans (Nat.mul_le_mul_right _ hle) a2
                  rw [Nat.add_mul] at this
                  simp only [World.cell?, a1]
                  exact getD_lt (by omega)) hz
                (fun k hk c hc => by
                  have hk2 : k < len := by rw [hlen] at hk; exact hk
                  have hc2 : c < (o.els[off + k]'(by omega)).cells.length := by rw [hgk k hk, sealed_len] at hc; exact hc
                  have hr := a4 (off + k) (by omega) c hc2
                  rw [hsz] at hr
                  have e1 : off * sz + (k * sz + c) = (off + k) * sz + c := by rw [Nat.add_mul]; omega
                  simp only [e1]
                  rcases sealed_cells H keep n (o.els[off + k]'(by omega)) with ⟨l, hl, hn⟩ | ⟨hs, hn⟩ | ⟨g1, g2⟩
                  · obtain ⟨m, rfl⟩ : ∃ m, n = m + 1 := ⟨n - 1, by omega⟩
                    have e2 : (((o.els.drop off).take len).map (Go.Proofs.Ytcdeilgijleoaaa.sealed H keep (m + 1)))[k].cells[c] = Go.Proofs.Ytcdeilgijleoaaa.sealed H keep m ((o.els[off + k]'(by omega)).cells[c]) := by
                      have e3 : (((o.els.drop off).take len).map (Go.Proofs.Ytcdeilgijleoaaa.sealed H keep (m + 1)))[k].cells = (l.map (Go.Proofs.Ytcdeilgijleoaaa.sealed H keep m)) := by rw [hgk k hk, hl]; rfl
                      have e4 : (o.els[off + k]'(by omega)).cells = l := by rw [hl]; rfl
                      exact (gl e3 hc).trans (by rw [List.getElem_map]; congr 1; exact (gl e4 hc2).symm)
                    rw [e2]
                    exact ih m (by omega) _ _ hr
                  · subst hn
                    have e2 : (((o.els.drop off).take len).map (Go.Proofs.Ytcdeilgijleoaaa.sealed H keep 0))[k].cells[c] = (o.els[off + k]'(by omega)).cells[c] := by
                      have : (((o.els.drop off).take len).map (Go.Proofs.Ytcdeilgijleoaaa.sealed H keep 0))[k] = o.els[off + k]'(by omega) := by rw [hgk k hk]; rfl
                      simp only [this]
                    rw [e2]
                    exact hr.stay (Stay.refl _ _) (fun _ h => ⟨h, rfl⟩) hF
                  · have hc0 : c = 0 := by rw [g1] at hc2; simpa using hc2
                    subst hc0
                    have e2 : (((o.els.drop off).take len).map (Go.Proofs.Ytcdeilgijleoaaa.sealed H keep n))[k].cells[0] = Go.Proofs.Ytcdeilgijleoaaa.sealed H keep n (o.els[off + k]'(by omega)) := by
                      have e3 : (((o.els.drop off).take len).map (Go.Proofs.Ytcdeilgijleoaaa.sealed H keep n))[k].cells = [Go.Proofs.Ytcdeilgijleoaaa.sealed H keep n (o.els[off + k]'(by omega))] := by rw [hgk k hk, g2]
                      simp only [e3, List.getElem_cons_zero]
                    have e5 : (o.els[off + k]'(by omega)).cells[0] = o.els[off + k]'(by omega) := by simp only [g1, List.getElem_cons_zero]
                    rw [e2]
                    rw [e5] at hr
                    exact ih n (by omega) _ _ hr)
              rw [hlen] at this
              exact this
            · exact .junk _
          · exact .junk _
mutual
theorem noOb_sealed (H : Nat → Option AO) (keep : Nat → Bool) : ∀ (n : Nat) (p : PV), p.noOb = true → sealed H keep n p = p
  | 0, p, _ => rfl
  | n + 1, .agg l, h => by simp only [PV.noOb] at h; simp only [sealed]; rw [noObL_sealed H keep n l h]
  | n + 1, .tup l, h => by simp only [PV.noOb] at h; simp only [sealed]; rw [noObL_sealed H keep n l h]
  | n + 1, .fn f l, h => by simp only [PV.noOb] at h; simp only [sealed]; rw [noObL_sealed H keep n l h]
  | _ + 1, .ob _ _ _ _, h => by cases h
  | _ + 1, .ptr _ _ _ _, h => by cases h
  | _ + 1, .junk, _ => rfl
  | _ + 1, .atom _, _ => rfl
  | _ + 1, .sl _ _, _ => rfl
  | _ + 1, .own _ _, _ => rfl
  | _ + 1, .fptr _ _ _ _, _ => rfl
theorem noObL_sealed (H : Nat → Option AO) (keep : Nat → Bool) : ∀ (n : Nat) (l : List PV), noObL l = true → l.map (sealed H keep n) = l
  | _, [], _ => rfl
  | n, p :: l, h => by
    simp only [noObL, Bool.and_eq_true] at h
    rw [List.map_cons, noOb_sealed H keep n p h.1, noObL_sealed H keep n l h.2]
end
end
def Enters (P : Program) (f : FuncId) : Prop := ∀ args w, (callFunc f args).run P w = .ok (.enter f args) w
def ResIs (F : Nat → Prop) (w w' : World) (r : PV) (os : List AO) (v : Value) : Prop :=
  ∃ (ν : Nat → Option Nat) (F' : Nat → Prop), Rep (· < os.length) ν F' w' r v ∧ (∀ i o, os[i]? = some o → Stands (· < os.length) ν F' w' o (ν i)) ∧
    (∀ i b, i < os.length → ν i = some b → w.heap.size ≤ b ∧ ¬ F' b) ∧ (∀ i j b, i < os.length → j < os.length → ν i = some b → ν j = some b → i = j) ∧ (∀ b, F' b → (F b ∨ w.heap.size ≤ b) ∧ b < w'.heap.size)
def PureCall (P : Program) (f : FuncId) (args : List PV) (r : PV) (os : List AO) : Prop :=
  ∀ (D : Nat → Prop) (μ : Nat → Option Nat) (F : Nat → Prop) (w : World) (vs : Array Value), vs.size = args.length → (∀ i (h : i < args.length), Rep D μ F w args[i] (vs.getD i undef)) → (∀ b, F b → b < w.heap.size) →
    Calls P f vs w fun e w' => ∃ v, e = .returned v ∧ Below w.heap.size w w' ∧ ResIs F w w' r os v
def AO.ren (ρ : Nat → Nat) (o : AO) : AO := ⟨o.sz, o.els.map (PV.ren ρ)⟩
theorem Stands.ren {D D' : Nat → Prop} {μ μ' : Nat → Option Nat} {F : Nat → Prop} {w : World} {o : AO} {m : Option Nat} {ρ : Nat → Nat} (h : Stands D μ F w o m) (hD : ∀ i, D i → D' (ρ i) ∧ μ' (ρ i) = μ i) : Stands D' μ' F w (o.ren ρ) m := by
  cases m with
  | none => have h' : o.els = [] := h; show (o.ren ρ).els = []; simp [AO.ren, h']
  | some b =>
    obtain ⟨A, e, h1, h2, h3, h4⟩ := h
    refine ⟨A, e, h1, by simpa [AO.ren] using h2, fun k hk => ?_, fun k hk c hc => ?_⟩
    · have hk' : k < o.els.length := by simpa [AO.ren] using hk
      have := h3 k hk'
      simp only [AO.ren, getElem_map', ren_cells, List.length_map]; exact this
    · have hk' : k < o.els.length := by simpa [AO.ren] using hk
      have hc' : c < o.els[k].cells.length := by simpa [AO.ren, ren_cells] using hc
      have e : (o.ren ρ).els[k].cells[c] = (o.els[k].cells[c]).ren ρ := by simp [AO.ren, ren_cells]
      rw [e]; exact (h4 k hk' c hc').ren hD
theorem Stands.flat {D : Nat → Prop} {μ : Nat → Option Nat} {F F' : Nat → Prop} {w : World} {o : AO} {m : Option Nat} (h : Stands D μ F w o m) (hf : o.els.all PV.flatB = true) : Stands D μ F' w o m := by
  cases m with
  | none => exact h
  | some b =>
    obtain ⟨A, e, h1, h2, h3, h4⟩ := h
    exact ⟨A, e, h1, h2, h3, fun k hk c hc => (h4 k hk c hc).flatAny (all_get (flat_cells (all_get hf k hk)) c hc)⟩
theorem Stands.stay {D D' : Nat → Prop} {μ μ' : Nat → Option Nat} {F F' : Nat → Prop} {w w' : World} {o : AO} {m : Option Nat} (h : Stands D μ F w o m) (hs : Stay F w w') (hD : ∀ i, D i → D' i ∧ μ' i = μ i) (hF : ∀ b, F b → F' b)
    (hb : ∀ b, m = some b → w'.heap[b]? = w.heap[b]?) : Stands D' μ' F' w' o m := by
  cases m with
  | none => exact h
  | some b => exact ObjOk.stay h hs hD hF (hb b rfl)
section
variable {P : Program}
def reach (H : Nat → Option AO) : Nat → PV → List Nat
  | 0, _ => []
  | n + 1, .agg l => l.flatMap (reach H n)
  | n + 1, .tup l => l.flatMap (reach H n)
  | n + 1, .fn _ l => l.flatMap (reach H n)
  | n + 1, .ob i _ _ _ => i :: (match H i with | some o => o.els.flatMap (reach H n) | none => [])
  | n + 1, .ptr i _ _ _ => i :: (match H i with | some o => o.els.flatMap (reach H n) | none => [])
  | _ + 1, _ => []
theorem sealed_reach {H H' : Nat → Option AO} (keep : Nat → Bool) : ∀ (n : Nat) (p : PV), (∀ i, i ∈ reach H n p → H' i = H i) → sealed H' keep n p = sealed H keep n p := by
  intro n
  induction n with
  | zero => intro p _; rfl
  | succ n ih =>
    intro p h
    cases p with
    | agg l => simp only [sealed, reach] at h ⊢; congr 1; exact List.map_congr_left fun q hq => ih q (fun i hi => h i (List.mem_flatMap.2 ⟨q, hq, hi⟩))
    | tup l => simp only [sealed, reach] at h ⊢; congr 1; exact List.map_congr_left fun q hq => ih q (fun i hi => h i (List.mem_flatMap.2 ⟨q, hq, hi⟩))
    | fn f l => simp only [sealed, reach] at h ⊢; congr 1; exact List.map_congr_left fun q hq => ih q (fun i hi => h i (List.mem_flatMap.2 ⟨q, hq, hi⟩))
    | ob i sz off len =>
      simp only [sealed, reach] at h ⊢
      rw [h i (List.mem_cons_self ..)]
      cases hi : H i with
      | none => rfl
      | some o =>
        simp only [hi] at h ⊢
        split
        · rfl
        · split
          · congr 1
            exact List.map_congr_left fun q hq => ih q (fun j hj => h j (List.mem_cons_of_mem _ (List.mem_flatMap.2 ⟨q, List.mem_of_mem_drop (List.mem_of_mem_take hq), hj⟩)))
          · rfl
    | ptr i sz k c =>
      simp only [sealed, reach] at h ⊢
      rw [h i (List.mem_cons_self ..)]
      cases hi : H i with
      | none => rfl
      | some o =>
        simp only [hi] at h ⊢
        split
        · rfl
        · split
          · congr 1
            exact List.map_congr_left fun q hq => ih q (fun j hj => h j (List.mem_cons_of_mem _ (List.mem_flatMap.2 ⟨q, hq, hj⟩)))
          · rfl
    | _ => rfl
end
def rmap (L : List Nat) (nx : Nat) (i : Nat) : Nat := (L[i]?).getD (nx + i)
theorem lk_mem {α : Type} : ∀ {l : List (Nat × α)} {i : Nat} {x : α}, lk l i = some x → (i, x) ∈ l
  | [], _, _, h => by cases h
  | (j, y) :: t, i, x, h => by
    unfold lk at h
    split at h
    · rename_i hj; subst hj; cases h; exact List.mem_cons_self ..
    · exact List.mem_cons_of_mem _ (lk_mem h)
theorem Stands.ren_inv {D D' : Nat → Prop} {μ μ' : Nat → Option Nat} {F : Nat → Prop} {w : World} {o : AO} {m : Option Nat} {ρ : Nat → Nat} (h : Stands D μ F w (o.ren ρ) m) (hD : ∀ i, D (ρ i) → D' i ∧ μ' i = μ (ρ i)) : Stands D' μ' F w o m := by
  cases m with
  | none =>
    have h' : (o.ren ρ).els = [] := h
    show o.els = []
    simpa [AO.ren] using h'
  | some b =>
    obtain ⟨A, e, h1, h2, h3, h4⟩ := h
    refine ⟨A, e, h1, by simpa [AO.ren] using h2, fun k hk => ?_, fun k hk c hc => ?_⟩
    · have := h3 k (by simpa [AO.ren] using hk)
      simpa [AO.ren, ren_cells] using this
    · have := h4 k (by simpa [AO.ren] using hk) c (by simpa [AO.ren, ren_cells] using hc)
      exact this.ren_inv hD _ (by simp [AO.ren, ren_cells])
theorem rmap_in {L : List Nat} {nx i : Nat} {D : Nat → Prop} (hD : ∀ i, D i → i < nx) (h : D (rmap L nx i)) : ∃ hi : i < L.length, rmap L nx i = L[i] := by
  by_cases hi : i < L.length
  · exact ⟨hi, by simp [rmap, hi]⟩
  · have : rmap L nx i = nx + i := by simp [rmap, hi]
    rw [this] at h
    have := hD _ h
    omega
theorem nodup_inj {L : List Nat} (h : L.Nodup) {i j : Nat} (hi : i < L.length) (hj : j < L.length) (he : L[i] = L[j]) : i = j := by
  rcases Nat.lt_trichotomy i j with hlt | heq | hgt
  · exact absurd he (List.pairwise_iff_getElem.1 h i j hi hj hlt)
  · exact heq
  · exact absurd he.symm (List.pairwise_iff_getElem.1 h j i hj hi hgt)
theorem cells_sealed {w0 : Home} {F0 D : Nat → Prop} {μ : Nat → Option Nat} {F : Nat → Prop} {H : Nat → Option AO} {w : World} (hH : HeapSim w0 F0 D μ F H w) (keep : Nat → Bool) (F2 : Nat → Prop) (hF : ∀ b, F b → F2 b) (hO : ∀ i o b, keep i = false → H i = some o → μ i = some b → F2 b)
    (k : Nat) (p : PV) (val : Nat → Value) (h : ∀ c (hc : c < p.cells.length), Rep D μ F w p.cells[c] (val c)) : ∀ c (hc : c < (sealed H keep k p).cells.length), Rep D μ F2 w (sealed H keep k p).cells[c] (val c) := fun c hc => by
  have hc' : c < p.cells.length := by rw [sealed_len] at hc; exact hc
  rcases sealed_cells H keep k p with ⟨l, rfl, hn⟩ | ⟨hs, hn⟩ | ⟨g1, g2⟩
  · obtain ⟨m, rfl⟩ : ∃ m, k = m + 1 := ⟨k - 1, by omega⟩
    have e3 : (sealed H keep (m + 1) (.agg l)).cells = l.map (sealed H keep m) := rfl
    rw [gl e3 hc, List.getElem_map]
    exact Rep.sealed hH keep F2 hF hO m _ _ (h c hc')
  · rw [gl hs hc]
    exact (h c hc').stay (Stay.refl _ _) (fun _ h => ⟨h, rfl⟩) hF
  · have hc0 : c = 0 := by rw [g1] at hc'; simpa using hc'
    subst hc0
    rw [gl g2 hc, List.getElem_cons_zero]
    have := h 0 hc'
    rw [gl g1 hc', List.getElem_cons_zero] at this
    exact Rep.sealed hH keep F2 hF hO k _ _ this
section
variable {P : Program}
def newIds (n k : Nat) (D : Nat → Prop) : Nat → Prop := fun i => D i ∨ (n ≤ i ∧ i < n + k)
def newMap (n k : Nat) (μ ν : Nat → Option Nat) : Nat → Option Nat := fun i => if n ≤ i ∧ i < n + k then ν (i - n) else μ i
theorem Sound.callPure {fo : Operand} {xs : Array Operand} {ts : Array TypeId} {S : St} {f : FuncId} {n : Nat} {r : PV} {os : List AO} {rd : List Nat} {cap : List PV} (hfo : S.ev fo = .fn f cap) (hen : Enters P f)
    (hc : PureCall P f ((xs.toList.map S.ev ++ cap).map (sealed S.obj (fun _ => false) n)) r os)
    (hfl : noObL (xs.toList.map S.ev ++ cap) = true ∨ (r.flatB = true ∧ os.all (fun o => o.els.all PV.flatB) = true))
    (hrd : ∀ p, p ∈ xs.toList.map S.ev ++ cap → ∀ i, i ∈ reach S.obj n p → i ∈ rd) :
    Sound P (.call ⟨.value fo, xs, ts⟩) S (r.ren (· + S.nx)) ⟨os.map (AO.ren (· + S.nx)), [], [], rd⟩ := by
  intro o a w0 F0 D μ F H w ho hH hxs hr hD next Q hn
  have hpf := hxs fo (by simp [Op.operands, Call.operands])
  rw [hfo] at hpf
  have hxa : ∀ x, x ∈ xs.toList → Rep D μ F w (S.ev x) (a.eval x) := fun x hx => hxs x (by simp only [Op.operands, Call.operands]; simp at hx ⊢; exact .inr hx)
  generalize hef : a.eval fo = u at hpf
  cases hpf with
  | fn _ _ cvs hcs hcr =>
    have hval : ∀ i (h : i < (xs.toList.map S.ev ++ cap).length), Rep D μ F w ((xs.toList.map S.ev ++ cap)[i]) ((xs.map a.eval ++ cvs).getD i undef) := fun i h => by
      by_cases hi : i < xs.size
      · have e1 : (xs.toList.map S.ev ++ cap)[i] = S.ev xs[i] := by rw [List.getElem_append_left (by simpa using hi)]; simp
        have e2 : (xs.map a.eval ++ cvs).getD i undef = a.eval xs[i] := by simp [Array.getD_eq_getD_getElem?, Array.getElem?_append, hi]
        rw [e1, e2]
        exact hxa _ (by simp)
      · have hi2 : i - xs.size < cap.length := by simp at h; omega
        have e1 : (xs.toList.map S.ev ++ cap)[i] = cap[i - xs.size] := by rw [List.getElem_append_right (by simpa using hi)]; simp
        have e2 : (xs.map a.eval ++ cvs).getD i undef = cvs.getD (i - xs.size) undef := by simp [Array.getD_eq_getD_getElem?, Array.getElem?_append, hi]
        rw [e1, e2]
        exact hcr _ hi2
    have hex : (execOp a.eval o).run P w = .ok (.enter f (xs.map a.eval ++ cvs)) w := by
      have := hen (xs.map a.eval ++ cvs) w
      unfold execOp
      simp only [ho, resolve, hef, Deferred.ofValue, Sem.run_bind, Sem.run_pure, Result.andThen_ok, invoke]
      simpa using this
    unfold Oper.wp
    rw [hex]
    simp only [Oper.upon]
    -- the frozen blocks that the call may look at
    have hsame : ∀ p, p ∈ xs.toList.map S.ev ++ cap → sealed H (fun _ => false) n p = sealed S.obj (fun _ => false) n p := fun p hp => sealed_reach _ n _ (fun i hi => hr i (hrd p hp i hi))
    have main : ∀ (F2 : Nat → Prop), (∀ b, F b → F2 b) → (∀ b, F2 b → b < w.heap.size) → (∀ i (h : i < ((xs.toList.map S.ev ++ cap).map (sealed S.obj (fun _ => false) n)).length), Rep D μ F2 w (((xs.toList.map S.ev ++ cap).map (sealed S.obj (fun _ => false) n))[i]) ((xs.map a.eval ++ cvs).getD i undef)) →
        ((∀ b, F2 b → F b) ∨ (r.flatB = true ∧ os.all (fun o => o.els.all PV.flatB) = true)) → Calls P f (xs.map a.eval ++ cvs) w fun | .returned v, w'' => next (a.put o.dst v) w'' | .panicked chain, w'' => Q (.panic chain) a w'' | .outgrown, _ => LetsOut Q := by
      intro F2 hF2 hF2s hargs hwhich
      refine (hc D μ F2 w (xs.map a.eval ++ cvs) (by simp [hcs]) hargs hF2s).mono fun e w' he => ?_
      obtain ⟨v, rfl, hb, ν, F', h1, h2, h3, h4, h5⟩ := he
      show next (a.put o.dst v) w'
      -- the frozen blocks behind the call
      obtain ⟨F3, hF3, h1', h2', h5', h3'⟩ : ∃ F3 : Nat → Prop, (∀ b, F b → F3 b) ∧ Rep (· < os.length) ν F3 w' r v ∧ (∀ i o, os[i]? = some o → Stands (· < os.length) ν F3 w' o (ν i)) ∧ (∀ b, F3 b → (F b ∨ w.heap.size ≤ b) ∧ b < w'.heap.size) ∧
          (∀ i b, i < os.length → ν i = some b → w.heap.size ≤ b ∧ ¬ F3 b) := by
        rcases hwhich with hw | ⟨hw1, hw2⟩
        · refine ⟨fun b => F b ∨ F' b, fun b h => .inl h, h1.stay (Stay.refl _ _) (fun _ h => ⟨h, rfl⟩) (fun _ h => .inr h), fun i o hi => (h2 i o hi).stay (Stay.refl _ _) (fun _ h => ⟨h, rfl⟩) (fun _ h => .inr h) (fun _ _ => rfl), fun b hbF => ?_, fun i b hi hib => ?_⟩
          · rcases hbF with hbF | hbF
            · exact ⟨.inl hbF, Nat.lt_of_lt_of_le (hH.fsz b hbF) hb.size⟩
            · exact ⟨(h5 b hbF).1.imp (hw b) id, (h5 b hbF).2⟩
          · refine ⟨(h3 i b hi hib).1, fun hbF => hbF.elim (fun h => ?_) (h3 i b hi hib).2⟩
            have := hH.fsz b h
            have := (h3 i b hi hib).1
            omega
        · refine ⟨F, fun b h => h, h1.flatAny hw1, fun i o hi => (h2 i o hi).flat (List.all_eq_true.1 hw2 _ (List.mem_of_getElem? hi)), fun b hbF => ⟨.inl hbF, Nat.lt_of_lt_of_le (hH.fsz b hbF) hb.size⟩, fun i b hi hib => ⟨(h3 i b hi hib).1, fun h => ?_⟩⟩
          have := hH.fsz b h
          have := (h3 i b hi hib).1
          omega
      have hlen : (os.map (AO.ren (· + S.nx))).length = os.length := by simp
      have hDn : ∀ k, k < os.length → ¬ D (S.nx + k) := fun k hk => hD k (by rw [hlen]; exact hk)
      have hold : ∀ i, D i → newIds S.nx os.length D i ∧ newMap S.nx os.length μ ν i = μ i := fun i hi => ⟨.inl hi, by
        unfold newMap
        rw [if_neg]
        rintro ⟨g1, g2⟩
        have := hDn (i - S.nx) (by omega)
        rw [show S.nx + (i - S.nx) = i by omega] at this
        exact this hi⟩
      have hnew : ∀ i, i < os.length → newIds S.nx os.length D (i + S.nx) ∧ newMap S.nx os.length μ ν (i + S.nx) = ν i := fun i hi => ⟨.inr ⟨by omega, by omega⟩, by unfold newMap; rw [if_pos ⟨by omega, by omega⟩]; congr 1; omega⟩
      have hst : Stay F w w' := Stay.below hb
      refine hn v w' (newIds S.nx os.length D) (newMap S.nx os.length μ ν) F3 (h1'.ren hnew) ?_ hst hold hF3 (fun i hi => by rw [hlen]; exact hi)
      refine hH.step hst hold hF3 (hH.ext.trans hb) (fun b hbF => (h5' b hbF).1.elim (hH.f0 b) (fun h => .inr (hH.ext.own_lt _ h))) (fun b hbF => (h5' b hbF).2) fun i ob hi => ?_
      unfold Eff.app at hi
      simp only [lk, List.not_mem_nil, if_false] at hi
      by_cases hin : S.nx ≤ i ∧ i < S.nx + (os.map (AO.ren (· + S.nx))).length
      · rw [if_pos hin] at hi
        rw [hlen] at hin
        obtain ⟨j, rfl⟩ : ∃ j, i = j + S.nx := ⟨i - S.nx, by omega⟩
        have hj : j < os.length := by omega
        rw [show j + S.nx - S.nx = j by omega, List.getElem?_map, List.getElem?_eq_getElem hj] at hi
        cases hi
        right
        obtain ⟨g1, g2⟩ := hnew j hj
        rw [g2]
        refine ⟨g1, (h2' j _ (List.getElem?_eq_getElem hj)).ren hnew, fun b hjb => ⟨hH.ext.own_lt _ (h3' j b hj hjb).1, (h3' j b hj hjb).2, fun k o2 hk hk2 hkb => ?_⟩⟩
        unfold Eff.app at hk2
        simp only [lk, List.not_mem_nil, if_false] at hk2
        by_cases hkin : S.nx ≤ k ∧ k < S.nx + (os.map (AO.ren (· + S.nx))).length
        · rw [hlen] at hkin
          obtain ⟨m, rfl⟩ : ∃ m, k = m + S.nx := ⟨k - S.nx, by omega⟩
          rw [(hnew m (by omega)).2] at hkb
          exact hk (by rw [h4 m j b (by omega) hj hkb hjb])
        · rw [if_neg hkin] at hk2
          rw [(hold k (hH.objs k o2 hk2).1).2] at hkb
          have := (hH.ok hk2 hkb).lt
          have := (h3' j b hj hjb).1
          omega
      · rw [if_neg hin] at hi
        refine .inl ⟨hi, fun b hib => ⟨hb.block _ (hH.ok hi hib).lt, fun hbF => ?_⟩⟩
        rcases (h5' b hbF).1 with h | h
        · exact (hH.own i ob b hi hib).2 h
        · have := (hH.ok hi hib).lt
          omega
    have argget : ∀ i (h : i < ((xs.toList.map S.ev ++ cap).map (sealed S.obj (fun _ => false) n)).length), ∃ p, p ∈ xs.toList.map S.ev ++ cap ∧ ((xs.toList.map S.ev ++ cap).map (sealed S.obj (fun _ => false) n))[i] = sealed S.obj (fun _ => false) n p ∧ Rep D μ F w p ((xs.map a.eval ++ cvs).getD i undef) := fun i h => by
      have hi : i < (xs.toList.map S.ev ++ cap).length := by simpa using h
      exact ⟨(xs.toList.map S.ev ++ cap)[i], List.getElem_mem hi, by rw [List.getElem_map], hval i hi⟩
    rcases hfl with hno | hfl
    · refine main F (fun _ h => h) hH.fsz (fun i h => ?_) (.inl (fun _ h => h))
      obtain ⟨p, hp, e1, e2⟩ := argget i h
      rw [e1, noOb_sealed _ _ _ _ (by rw [noObL_all] at hno; exact List.all_eq_true.1 hno _ hp)]
      exact e2
    · refine main (fun b => F b ∨ ∃ i o, H i = some o ∧ μ i = some b) (fun _ h => .inl h) (fun b hbF => hbF.elim (hH.fsz b) (fun ⟨i, o, hi, hib⟩ => (hH.ok hi hib).lt)) (fun i h => ?_) (.inr hfl)
      obtain ⟨p, hp, e1, e2⟩ := argget i h
      rw [e1, ← hsame p hp]
      exact Rep.sealed hH (fun _ => false) _ (fun _ h => .inl h) (fun i o b _ hi hib => .inr ⟨i, o, hi, hib⟩) n _ _ e2
end
def ProcCall (P : Program) (f : FuncId) (args : List PV) (hp : List AO) (r : PV) (hp' : List (Option AO)) (os : List AO) : Prop :=
  hp'.length = hp.length ∧ ∀ (μ : Nat → Option Nat) (F : Nat → Prop) (w : World) (vs : Array Value), HeapSim ⟨w, fun b => ∃ i, i < hp.length ∧ μ i = some b⟩ F (· < hp.length) μ F (fun i => hp[i]?) w →
    vs.size = args.length → (∀ i (h : i < args.length), Rep (· < hp.length) μ F w args[i] (vs.getD i undef)) →
    Calls P f vs w fun e w' => ∃ v, e = .returned v ∧ ∃ (μ' : Nat → Option Nat) (F' : Nat → Prop), Rep (· < hp.length + os.length) μ' F' w' r v ∧
      HeapSim ⟨w, fun b => ∃ i, i < hp.length ∧ μ i = some b⟩ F (· < hp.length + os.length) μ' F' (fun i => ((hp' ++ os.map some)[i]?).join) w' ∧ (∀ i, i < hp.length → μ' i = μ i)
def pmap (L : List Nat) (nx : Nat) (i : Nat) : Nat := (L[i]?).getD (nx + (i - L.length))
def procSet (ρ : Nat → Nat) : List Nat → List (Option AO) → List (Nat × AO)
  | i :: L, some o :: h => (i, o.ren ρ) :: procSet ρ L h
  | _ :: L, none :: h => procSet ρ L h
  | _, _ => []
def procDel : List Nat → List (Option AO) → List Nat
  | _ :: L, some _ :: h => procDel L h
  | i :: L, none :: h => i :: procDel L h
  | _, _ => []
theorem procSet_not (ρ : Nat → Nat) {x : Nat} : ∀ (L : List Nat) (h : List (Option AO)), x ∉ L → lk (procSet ρ L h) x = none ∧ x ∉ procDel L h
  | [], h, _ => by cases h <;> simp [procSet, procDel, lk]
  | i :: L, [], _ => by simp [procSet, procDel, lk]
  | i :: L, m :: h, hx => by
    have hx2 : x ∉ L := fun h => hx (List.mem_cons_of_mem _ h)
    have hxi : i ≠ x := fun e => hx (by rw [e]; exact List.mem_cons_self ..)
    obtain ⟨a, b⟩ := procSet_not ρ L h hx2
    cases m with
    | some o => exact ⟨by rw [procSet, lk, if_neg hxi]; exact a, by rw [procDel]; exact b⟩
    | none => exact ⟨by rw [procSet]; exact a, by rw [procDel, List.mem_cons]; exact fun h => h.elim (fun e => hxi e.symm) b⟩
theorem procSet_at (ρ : Nat → Nat) : ∀ (L : List Nat) (h : List (Option AO)), L.Nodup → ∀ (j : Nat) (i : Nat) (m : Option AO), L[j]? = some i → h[j]? = some m → lk (procSet ρ L h) i = m.map (AO.ren ρ) ∧ (m = none → i ∈ procDel L h) ∧ (m ≠ none → i ∉ procDel L h)
  | [], h, _, j, i, m, hL, _ => by simp at hL
  | k :: L, [], _, j, i, m, _, hh => by simp at hh
  | k :: L, m0 :: h, hn, j, i, m, hL, hh => by
    rw [List.nodup_cons] at hn
    cases j with
    | zero =>
      simp only [List.getElem?_cons_zero, Option.some.injEq] at hL hh
      subst hL; subst hh
      cases m0 with
      | some o => exact ⟨by rw [procSet, lk, if_pos rfl]; rfl, (fun e => by cases e), fun _ => by rw [procDel]; exact (procSet_not ρ L h hn.1).2⟩
      | none => exact ⟨by rw [procSet]; exact (procSet_not ρ L h hn.1).1, (fun _ => by rw [procDel]; exact List.mem_cons_self ..), fun e => absurd rfl e⟩
    | succ j =>
      simp only [List.getElem?_cons_succ] at hL hh
      have hki : k ≠ i := fun e => hn.1 (by rw [e]; exact List.mem_of_getElem? hL)
      obtain ⟨a, b, c⟩ := procSet_at ρ L h hn.2 j i m hL hh
      cases m0 with
      | some o => exact ⟨by rw [procSet, lk, if_neg hki]; exact a, (fun e => by rw [procDel]; exact b e), fun e => by rw [procDel]; exact c e⟩
      | none => exact ⟨by rw [procSet]; exact a, (fun e => by rw [procDel]; exact List.mem_cons_of_mem _ (b e)), fun e => by rw [procDel, List.mem_cons]; exact fun h => h.elim (fun e' => hki e'.symm) (c e)⟩
structure Lent (S : St) (L : List Nat) (n : Nat) (vals args : List PV) (hp : List AO) : Prop where
  nodup : L.Nodup
  len : L.length = hp.length
  args : vals.map (sealed S.obj (fun i => L.contains i) n) = args.map (PV.ren (rmap L S.nx))
  objs : ∀ i o, hp[i]? = some o → ∃ o', S.obj (rmap L S.nx i) = some o' ∧ o'.sz = o.sz ∧ o'.els.map (sealed S.obj (fun i => L.contains i) n) = o.els.map (PV.ren (rmap L S.nx))
section
variable {P : Program} {w0 : Home} {F0 D D' : Nat → Prop} {μ μ' : Nat → Option Nat} {F F' : Nat → Prop} {H H' : Nat → Option AO} {w w' : World}
theorem cells_keep (p : PV) (val : Nat → Value) (hF : ∀ b, F b → F' b) (h : ∀ c (hc : c < p.cells.length), Rep D μ F w p.cells[c] (val c)) : ∀ c (hc : c < p.cells.length), Rep D μ F' w p.cells[c] (val c) :=
  fun c hc => (h c hc).stay (Stay.refl _ _) (fun _ h => ⟨h, rfl⟩) hF
def lentF (H : Nat → Option AO) (μ : Nat → Option Nat) (F : Nat → Prop) (L : List Nat) (n : Nat) (b : Nat) : Prop := F b ∨ (n ≠ 0 ∧ ∃ i o, L.contains i = false ∧ H i = some o ∧ μ i = some b)
theorem lent_rep (hH : HeapSim w0 F0 D μ F H w) (L : List Nat) (n : Nat) {p : PV} {v : Value} (h : Rep D μ F w p v) : Rep D μ (lentF H μ F L n) w (sealed H (fun i => L.contains i) n p) v := by
  cases n with
  | zero => exact h.stay (Stay.refl _ _) (fun _ h => ⟨h, rfl⟩) (fun _ h => .inl h)
  | succ n => exact Rep.sealed hH _ _ (fun _ h => .inl h) (fun i o b h1 h2 h3 => .inr ⟨by omega, i, o, h1, h2, h3⟩) _ _ _ h
theorem lent_cells (hH : HeapSim w0 F0 D μ F H w) (L : List Nat) (n : Nat) (p : PV) (val : Nat → Value) (h : ∀ c (hc : c < p.cells.length), Rep D μ F w p.cells[c] (val c)) :
    ∀ c (hc : c < (sealed H (fun i => L.contains i) n p).cells.length), Rep D μ (lentF H μ F L n) w (sealed H (fun i => L.contains i) n p).cells[c] (val c) := by
  cases n with
  | zero => exact cells_keep p val (fun _ h => .inl h) h
  | succ n => exact cells_sealed hH _ _ (fun _ h => .inl h) (fun i o b h1 h2 h3 => .inr ⟨by omega, i, o, h1, h2, h3⟩) _ p val h
theorem lent_stands (hH : HeapSim w0 F0 D μ F H w) (L : List Nat) (n : Nat) {o o' : AO} {ρ : Nat → Nat} {m : Option Nat} (hst : Stands D μ F w o' m) (h2 : o'.sz = o.sz) (h3 : o'.els.map (sealed H (fun i => L.contains i) n) = o.els.map (PV.ren ρ)) :
    Stands D μ (lentF H μ F L n) w (o.ren ρ) m := by
  cases m with
  | none =>
    have h' : o'.els = [] := hst
    show (o.ren ρ).els = []
    unfold AO.ren
    rw [← h3, h']; rfl
  | some b =>
    obtain ⟨A, e, a1, a2, a3, a4⟩ := hst
    have hlen : o.els.length = o'.els.length := by have := congrArg List.length h3; simpa using this.symm
    have hek : ∀ kk (hk : kk < (o.ren ρ).els.length), (o.ren ρ).els[kk] = sealed H (fun i => L.contains i) n (o'.els[kk]'(by simp [AO.ren] at hk; omega)) := fun kk hk => by
      have e1 : (o.ren ρ).els = o'.els.map (sealed H (fun i => L.contains i) n) := h3.symm
      rw [gl e1 hk, List.getElem_map]
    refine ⟨A, e, a1, ?_, fun kk hk => ?_, fun kk hk c hc => ?_⟩
    · simp only [AO.ren, List.length_map]; rw [hlen, ← h2]; exact a2
    · rw [hek kk hk, sealed_len, a3]; exact h2
    · have hkk : kk < o'.els.length := by simp [AO.ren] at hk; omega
      have e2 : (o.ren ρ).els[kk].cells = (sealed H (fun i => L.contains i) n o'.els[kk]).cells := by rw [hek kk hk]
      rw [gl e2 hc]
      have := lent_cells hH L n o'.els[kk] (fun c => A.getD (kk * o'.sz + c) undef) (fun c hc => a4 kk hkk c hc) c (by rw [← e2]; exact hc)
      have e3 : (o.ren ρ).sz = o'.sz := h2.symm
      rw [e3]; exact this
def flatO : Option AO → Bool
  | some o => o.els.all PV.flatB
  | none => true
theorem pmap_old {L : List Nat} {nx i : Nat} (h : i < L.length) : pmap L nx i = L[i] := by simp [pmap, h]
theorem pmap_new {L : List Nat} {nx i : Nat} (h : L.length ≤ i) : pmap L nx i = nx + (i - L.length) := by simp [pmap, h]
theorem rmap_old {L : List Nat} {nx i : Nat} (h : i < L.length) : rmap L nx i = L[i] := by simp [rmap, h]
theorem Ext.trans2 {B : Home} {a b : World} {M : Nat → Prop} (h : Ext B a) (k : Ext ⟨a, M⟩ b) (hM : ∀ b, M b → B.own b) : Ext B b :=
  ⟨k.os.trans h.os, k.tape.trans h.tape, k.output.trans h.output, Nat.le_trans h.size k.size,
    fun i hi hn => (k.block i (Nat.lt_of_lt_of_le hi h.size) (fun hm => (hM i hm).elim (fun h => by omega) hn)).trans (h.block i hi hn), fun b => Nat.le_trans (h.sizes b) (k.sizes b)⟩
theorem Sound.callProc {fo : Operand} {xs : Array Operand} {ts : Array TypeId} {S : St} {f : FuncId} {n : Nat} {cap args : List PV} {hp : List AO} {r : PV} {hp' : List (Option AO)} {os : List AO} {L : List Nat} {rd : List Nat}
    (hfo : S.ev fo = .fn f cap) (hen : Enters P f) (hc : ProcCall P f args hp r hp' os) (hl : Lent S L n (xs.toList.map S.ev ++ cap) args hp)
    (hfl : n = 0 ∨ (r.flatB = true ∧ os.all (fun o => o.els.all PV.flatB) = true ∧ hp'.all flatO = true)) :
    SoundI P (.call ⟨.value fo, xs, ts⟩) S (r.ren (pmap L S.nx)) ⟨os.map (AO.ren (pmap L S.nx)), procDel L hp', procSet (pmap L S.nx) L hp', rd⟩ := by
  intro o a w0 F0 D μ F w ho hH hxs hD next Q hn
  have hpf := hxs fo (by simp [Op.operands, Call.operands])
  rw [hfo] at hpf
  have hxa : ∀ x, x ∈ xs.toList → Rep D μ F w (S.ev x) (a.eval x) := fun x hx => hxs x (by simp only [Op.operands, Call.operands]; simp at hx ⊢; exact .inr hx)
  generalize hef : a.eval fo = u at hpf
  cases hpf with
  | fn _ _ cvs hcs hcr =>
    have hval : ∀ i (h : i < (xs.toList.map S.ev ++ cap).length), Rep D μ F w ((xs.toList.map S.ev ++ cap)[i]) ((xs.map a.eval ++ cvs).getD i undef) := fun i h => by
      by_cases hi : i < xs.size
      · have e1 : (xs.toList.map S.ev ++ cap)[i] = S.ev xs[i] := by rw [List.getElem_append_left (by simpa using hi)]; simp
        have e2 : (xs.map a.eval ++ cvs).getD i undef = a.eval xs[i] := by simp [Array.getD_eq_getD_getElem?, Array.getElem?_append, hi]
        rw [e1, e2]
        exact hxa _ (by simp)
      · have hi2 : i - xs.size < cap.length := by simp at h; omega
        have e1 : (xs.toList.map S.ev ++ cap)[i] = cap[i - xs.size] := by rw [List.getElem_append_right (by simpa using hi)]; simp
        have e2 : (xs.map a.eval ++ cvs).getD i undef = cvs.getD (i - xs.size) undef := by simp [Array.getD_eq_getD_getElem?, Array.getElem?_append, hi]
        rw [e1, e2]
        exact hcr _ hi2
    have hex : (execOp a.eval o).run P w = .ok (.enter f (xs.map a.eval ++ cvs)) w := by
      have := hen (xs.map a.eval ++ cvs) w
      unfold execOp
      simp only [ho, resolve, hef, Deferred.ofValue, Sem.run_bind, Sem.run_pure, Result.andThen_ok, invoke]
      simpa using this
    unfold Oper.wp
    rw [hex]
    simp only [Oper.upon]
    obtain ⟨hlen', hcall⟩ := hc
    have hLk := hl.len
    have hlt : ∀ i, i < hp.length → ∃ hi : i < L.length, rmap L S.nx i = L[i] := fun i hi => ⟨by omega, rmap_old _⟩
    have hLobj : ∀ i (hi : i < hp.length), ∃ o', S.obj (rmap L S.nx i) = some o' ∧ D (rmap L S.nx i) ∧ Stands D μ (lentF S.obj μ F L n) w ((hp[i]).ren (rmap L S.nx)) (μ (rmap L S.nx i)) := fun i hi => by
      obtain ⟨o', h1, h2, h3⟩ := hl.objs i _ (List.getElem?_eq_getElem hi)
      obtain ⟨g1, g2⟩ := hH.objs _ _ h1
      exact ⟨o', h1, g1, lent_stands hH L n g2 h2 h3⟩
    have hDr : ∀ i, D (rmap L S.nx i) → i < hp.length ∧ μ (rmap L S.nx i) = μ (rmap L S.nx i) := fun i hi => ⟨by have := (rmap_in hD hi).1; omega, rfl⟩
    have hFs : ∀ b, lentF S.obj μ F L n b → b < w.heap.size := fun b hb => hb.elim (hH.fsz b) (fun ⟨_, i, o, _, h2, h3⟩ => (hH.ok h2 h3).lt)
    have hnF : ∀ i b, i < hp.length → μ (rmap L S.nx i) = some b → ¬ lentF S.obj μ F L n b := fun i b hi hib hb => by
      obtain ⟨o', h1, _⟩ := hLobj i hi
      rcases hb with hb | ⟨_, j, o2, g1, g2, g3⟩
      · exact (hH.own _ _ b h1 hib).2 hb
      · have := hH.inj _ _ _ _ b h1 g2 hib g3
        obtain ⟨hiL, e⟩ := hlt i hi
        rw [← this, e] at g1
        have := List.contains_iff_mem.2 (List.getElem_mem hiL)
        rw [g1] at this; cases this
    have hHc : HeapSim ⟨w, fun b => ∃ i, i < hp.length ∧ μ (rmap L S.nx i) = some b⟩ (lentF S.obj μ F L n) (· < hp.length) (fun i => μ (rmap L S.nx i)) (lentF S.obj μ F L n) (fun i => hp[i]?) w := by
      refine ⟨fun i ob hi => ?_, fun i j ob ob' b hi hj hib hjb => ?_, fun i ob b hi hib => ?_, Ext.refl _ _, fun b hb => .inl hb, hFs⟩
      · have hik := (List.getElem?_eq_some_iff.1 hi).1
        obtain ⟨o', h1, h2, h3⟩ := hLobj i hik
        rw [(List.getElem?_eq_some_iff.1 hi).2] at h3
        exact ⟨hik, h3.ren_inv hDr⟩
      · have hik := (List.getElem?_eq_some_iff.1 hi).1
        have hjk := (List.getElem?_eq_some_iff.1 hj).1
        obtain ⟨o1, h1, _⟩ := hLobj i hik
        obtain ⟨o2, h2, _⟩ := hLobj j hjk
        have e := hH.inj _ _ _ _ b h1 h2 hib hjb
        obtain ⟨hi2, e1⟩ := hlt i hik
        obtain ⟨hj2, e2⟩ := hlt j hjk
        rw [e1, e2] at e
        exact nodup_inj hl.nodup hi2 hj2 e
      · have hik := (List.getElem?_eq_some_iff.1 hi).1
        exact ⟨.inr ⟨i, hik, hib⟩, hnF i b hik hib⟩
    have hargs : ∀ i (h : i < args.length), Rep (· < hp.length) (fun i => μ (rmap L S.nx i)) (lentF S.obj μ F L n) w args[i] ((xs.map a.eval ++ cvs).getD i undef) := fun i h => by
      have hla : args.length = (xs.toList.map S.ev ++ cap).length := by have := congrArg List.length hl.args; simpa using this.symm
      have h1 := lent_rep hH L n (hval i (by omega))
      have e : (args.map (PV.ren (rmap L S.nx)))[i]'(by simpa using h) = sealed S.obj (fun i => L.contains i) n ((xs.toList.map S.ev ++ cap)[i]'(by omega)) := by
        have e1 : args.map (PV.ren (rmap L S.nx)) = (xs.toList.map S.ev ++ cap).map (sealed S.obj (fun i => L.contains i) n) := hl.args.symm
        rw [gl e1, List.getElem_map]
      rw [← e, List.getElem_map] at h1
      exact h1.ren_inv hDr _ rfl
    have hla : (xs.map a.eval ++ cvs).size = args.length := by have := congrArg List.length hl.args; simp at this ⊢; omega
    refine (hcall _ _ w _ hHc hla hargs).mono fun e w' he => ?_
    obtain ⟨v, rfl, μ', F', h1, h2, h3⟩ := he
    show next (a.put o.dst v) w'
    have hMown : ∀ b, (∃ i, i < hp.length ∧ μ (rmap L S.nx i) = some b) → w0.own b ∧ ¬ F b := fun b ⟨i, hi, hib⟩ => by
      obtain ⟨o', g1, _⟩ := hLobj i hi
      exact hH.own _ _ b g1 hib
    have hunl : ∀ i ob b, L.contains i = false → S.obj i = some ob → μ i = some b → b < w.heap.size ∧ ¬ ∃ i, i < hp.length ∧ μ (rmap L S.nx i) = some b := fun i ob b g1 g2 g3 => by
      refine ⟨(hH.ok g2 g3).lt, fun ⟨j, hj, hjb⟩ => ?_⟩
      obtain ⟨o', q1, _⟩ := hLobj j hj
      have := hH.inj _ _ _ _ b g2 q1 g3 hjb
      obtain ⟨hjL, e⟩ := hlt j hj
      rw [this, e] at g1
      have := List.contains_iff_mem.2 (List.getElem_mem hjL)
      rw [g1] at this; cases this
    obtain ⟨F3, hF3, h1', h2', h5', h6', h7'⟩ : ∃ F3 : Nat → Prop, (∀ b, F b → F3 b) ∧ Rep (· < hp.length + os.length) μ' F3 w' r v ∧ (∀ i o, ((hp' ++ os.map some)[i]?).join = some o → Stands (· < hp.length + os.length) μ' F3 w' o (μ' i)) ∧
        (∀ b, F3 b → (F b ∨ w.heap.size ≤ b ∨ ∃ i, i < hp.length ∧ μ (rmap L S.nx i) = some b) ∧ b < w'.heap.size) ∧ (∀ i o b, ((hp' ++ os.map some)[i]?).join = some o → μ' i = some b → ¬ F3 b) ∧
        (∀ i ob b, L.contains i = false → S.obj i = some ob → μ i = some b → ¬ F3 b) := by
      have hnotF : ∀ i o b, ((hp' ++ os.map some)[i]?).join = some o → μ' i = some b → ¬ F b := fun i o b hi hib hbF => by
        rcases (h2.own i o b hi hib).1 with h | h
        · have := hH.fsz b hbF
          have : w.heap.size ≤ b := h
          omega
        · exact (hMown b h).2 hbF
      rcases hfl with hn0 | ⟨hf1, hf2, hf3⟩
      · have hF' : ∀ b, F' b → F b ∨ w.heap.size ≤ b ∨ ∃ i, i < hp.length ∧ μ (rmap L S.nx i) = some b := fun b hb => by
          rcases h2.f0 b hb with (h | h) | h
          · exact .inl h
          · exact absurd hn0 h.1
          · exact .inr h
        refine ⟨fun b => F b ∨ F' b, fun b h => .inl h, h1.stay (Stay.refl _ _) (fun _ h => ⟨h, rfl⟩) (fun _ h => .inr h), fun i o hi => ((h2.objs i o hi).2).stay (Stay.refl _ _) (fun _ h => ⟨h, rfl⟩) (fun _ h => .inr h) (fun _ _ => rfl), fun b hbF => ?_, fun i o b hi hib hbF => ?_, fun i ob b g1 g2 g3 hbF => ?_⟩
        · rcases hbF with hbF | hbF
          · exact ⟨.inl hbF, Nat.lt_of_lt_of_le (hH.fsz b hbF) h2.ext.size⟩
          · exact ⟨hF' b hbF, h2.fsz b hbF⟩
        · exact hbF.elim (hnotF i o b hi hib) (h2.own i o b hi hib).2
        · obtain ⟨q1, q2⟩ := hunl i ob b g1 g2 g3
          rcases hbF with hbF | hbF
          · exact (hH.own i ob b g2 g3).2 hbF
          · rcases hF' b hbF with h | h | h
            · exact (hH.own i ob b g2 g3).2 h
            · omega
            · exact q2 h
      · refine ⟨F, fun b h => h, h1.flatAny hf1, fun i o hi => ((h2.objs i o hi).2).flat ?_, fun b hbF => ⟨.inl hbF, Nat.lt_of_lt_of_le (hH.fsz b hbF) h2.ext.size⟩, hnotF, fun i ob b g1 g2 g3 => (hH.own i ob b g2 g3).2⟩
        cases hx : (hp' ++ os.map some)[i]? with
        | none => rw [hx] at hi; cases hi
        | some m =>
          rw [hx] at hi
          have hm : m = some o := hi
          subst hm
          rcases List.mem_append.1 (List.mem_of_getElem? hx) with hm | hm
          · exact List.all_eq_true.1 hf3 _ hm
          · obtain ⟨o2, ho2, e⟩ := List.mem_map.1 hm
            cases e
            exact List.all_eq_true.1 hf2 _ ho2
    have hst : Stay F w w' := ⟨h2.ext.sizes, fun b c u hbF hu => by
      rw [World.cell?_of_block (h2.ext.block b (hH.fsz b hbF) (fun hm => (hMown b hm).2 hbF))]; exact hu⟩
    have hlen2 : (os.map (AO.ren (pmap L S.nx))).length = os.length := by simp
    have hold : ∀ i, D i → newIds S.nx os.length D i ∧ newMap S.nx os.length μ (fun j => μ' (hp.length + j)) i = μ i := fun i hi => ⟨.inl hi, by
      unfold newMap
      rw [if_neg]
      rintro ⟨g1, g2⟩
      have := hD i hi
      omega⟩
    have hnew : ∀ i, i < hp.length + os.length → newIds S.nx os.length D (pmap L S.nx i) ∧ newMap S.nx os.length μ (fun j => μ' (hp.length + j)) (pmap L S.nx i) = μ' i := fun i hi => by
      by_cases hik : i < hp.length
      · obtain ⟨hiL, e⟩ := hlt i hik
        obtain ⟨o', _, g2, _⟩ := hLobj i hik
        rw [e] at g2
        have := hold _ g2
        rw [pmap_old hiL]
        refine ⟨this.1, this.2.trans ?_⟩
        rw [h3 i hik, e]
      · rw [pmap_new (by omega)]
        refine ⟨.inr ⟨by omega, by omega⟩, ?_⟩
        unfold newMap
        rw [if_pos ⟨by omega, by omega⟩]
        show μ' _ = _
        congr 1; omega
    have key : ∀ j ob, (Eff.mk (os.map (AO.ren (pmap L S.nx))) (procDel L hp') (procSet (pmap L S.nx) L hp') rd).app S.nx S.obj j = some ob →
        (∃ c oc, c < hp.length + os.length ∧ ((hp' ++ os.map some)[c]?).join = some oc ∧ j = pmap L S.nx c ∧ ob = oc.ren (pmap L S.nx)) ∨ (L.contains j = false ∧ S.obj j = some ob) := fun j ob hj => by
      unfold Eff.app at hj
      simp only at hj
      by_cases hin : S.nx ≤ j ∧ j < S.nx + (os.map (AO.ren (pmap L S.nx))).length
      · rw [if_pos hin] at hj
        rw [hlen2] at hin
        have hjm : j - S.nx < os.length := by omega
        rw [List.getElem?_map, List.getElem?_eq_getElem hjm] at hj
        cases hj
        refine .inl ⟨hp.length + (j - S.nx), os[j - S.nx], by omega, ?_, ?_, rfl⟩
        · rw [List.getElem?_append_right (by omega), hlen', Nat.add_sub_cancel_left, List.getElem?_map, List.getElem?_eq_getElem hjm]; rfl
        · rw [pmap_new (by omega)]; omega
      · rw [if_neg hin] at hj
        by_cases hjL : j ∈ L
        · obtain ⟨c, hc, rfl⟩ := List.getElem_of_mem hjL
          have hck : c < hp'.length := by omega
          obtain ⟨p1, p2, p3⟩ := procSet_at (pmap L S.nx) L hp' hl.nodup c L[c] hp'[c] (List.getElem?_eq_getElem hc) (List.getElem?_eq_getElem hck)
          rw [p1] at hj
          cases hm : hp'[c] with
          | none => rw [hm] at hj p2; simp only [Option.map_none] at hj; rw [if_pos (p2 rfl)] at hj; cases hj
          | some oc =>
            rw [hm] at hj
            simp only [Option.map_some, Option.some.injEq] at hj
            refine .inl ⟨c, oc, by omega, ?_, (pmap_old hc).symm, hj.symm⟩
            rw [List.getElem?_append_left hck, List.getElem?_eq_getElem hck, hm]; rfl
        · obtain ⟨p1, p2⟩ := procSet_not (pmap L S.nx) L hp' hjL
          rw [p1] at hj
          simp only [if_neg p2] at hj
          refine .inr ⟨?_, hj⟩
          cases hcn : L.contains j with
          | false => rfl
          | true => exact absurd (List.contains_iff_mem.1 hcn) hjL
    refine hn v w' (newIds S.nx os.length D) (newMap S.nx os.length μ (fun j => μ' (hp.length + j))) F3 (h1'.ren hnew) ?_ hst hold hF3 (fun i hi => by rw [hlen2]; exact hi)
    refine hH.step hst hold hF3 (hH.ext.trans2 h2.ext (fun b hb => (hMown b hb).1)) (fun b hbF => ?_) (fun b hbF => (h5' b hbF).2) fun i ob hi => ?_
    · rcases (h5' b hbF).1 with h | h | h
      · exact hH.f0 b h
      · exact .inr (hH.ext.own_lt _ h)
      · exact .inr (hMown b h).1
    rcases key i ob hi with ⟨c, oc, hc, hoc, rfl, rfl⟩ | ⟨g1, g2⟩
    · obtain ⟨q1, q2⟩ := hnew c hc
      right
      rw [q2]
      refine ⟨q1, (h2' c oc hoc).ren hnew, fun b hcb => ⟨?_, h6' c oc b hoc hcb, fun j o2 hj hj2 hjb => ?_⟩⟩
      · rcases (h2.own c oc b hoc hcb).1 with h | h
        · exact hH.ext.own_lt _ h
        · exact (hMown b h).1
      · rcases key j o2 hj2 with ⟨c', oc', hc', hoc', rfl, rfl⟩ | ⟨g1, g2⟩
        · rw [(hnew c' hc').2] at hjb
          exact hj (by rw [h2.inj c' c oc' oc b hoc' hoc hjb hcb])
        · rw [(hold j (hH.objs j o2 g2).1).2] at hjb
          obtain ⟨q3, q4⟩ := hunl j o2 b g1 g2 hjb
          rcases (h2.own c oc b hoc hcb).1 with h | h
          · have : w.heap.size ≤ b := h
            omega
          · exact q4 h
    · left
      refine ⟨g2, fun b hib => ⟨?_, h7' i ob b g1 g2 hib⟩⟩
      obtain ⟨q3, q4⟩ := hunl i ob b g1 g2 hib
      exact h2.ext.block b q3 q4
end
end Go.Proofs.Ytcdeilgijleoaaa
