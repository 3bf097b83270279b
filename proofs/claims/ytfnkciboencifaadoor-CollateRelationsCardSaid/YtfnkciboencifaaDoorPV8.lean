/-
  The clean machine: other numbers for own objects; own objects looked at as frozen ones; calls of functions that only compute.
-/
import Derived.Test.YtfnkciboencifaaDoorPV7
set_option linter.all false
namespace Go.Proofs.YtfnkciboencifaaDoor
open Go Go.RowKit

mutual
def PV.ren (ρ : Nat → Nat) : PV → PV
  | .junk => .junk
  | .atom v => .atom v
  | .agg l => .agg (renL ρ l)
  | .tup l => .tup (renL ρ l)
  | .sl sz l => .sl sz (renL ρ l)
  | .own sz l => .own sz (renL ρ l)
  | .ob i sz off len => .ob (ρ i) sz off len
  | .ptr i sz k c => .ptr (ρ i) sz k c
  | .fptr sz l k c => .fptr sz (renL ρ l) k c
  | .fn f l => .fn f (renL ρ l)
def renL (ρ : Nat → Nat) : List PV → List PV
  | [] => []
  | p :: l => p.ren ρ :: renL ρ l
end
theorem renL_map (ρ : Nat → Nat) : ∀ l : List PV, renL ρ l = l.map (PV.ren ρ)
  | [] => rfl
  | p :: l => by rw [renL, renL_map ρ l]; rfl
theorem ren_cells (ρ : Nat → Nat) (p : PV) : (p.ren ρ).cells = p.cells.map (PV.ren ρ) := by
  cases p <;> simp [PV.ren, PV.cells, renL_map]

mutual
/-- Nothing in it is an own object. -/
def PV.pure : PV → Bool
  | .junk | .atom _ => true
  | .agg l | .tup l | .sl _ l | .fptr _ l _ _ | .fn _ l => pureL l
  | .own _ _ | .ob _ _ _ _ | .ptr _ _ _ _ => false
def pureL : List PV → Bool
  | [] => true
  | p :: l => p.pure && pureL l
end
theorem pureL_all : ∀ l : List PV, pureL l = l.all PV.pure
  | [] => rfl
  | p :: l => by rw [pureL, pureL_all l]; rfl
theorem pure_cells {p : PV} (h : p.pure = true) : p.cells.all PV.pure = true := by
  cases p <;> simp_all [PV.cells, PV.pure, pureL_all]

mutual
/-- Nothing in it lies in frozen rows. -/
def PV.flatB : PV → Bool
  | .junk | .atom _ | .ob _ _ _ _ | .ptr _ _ _ _ => true
  | .agg l | .tup l | .fn _ l => flatL l
  | .sl _ [] => true
  | .sl _ (_ :: _) | .fptr _ _ _ _ | .own _ _ => false
def flatL : List PV → Bool
  | [] => true
  | p :: l => p.flatB && flatL l
end
theorem flatL_all : ∀ l : List PV, flatL l = l.all PV.flatB
  | [] => rfl
  | p :: l => by rw [flatL, flatL_all l]; rfl

mutual
/-- No own object is named in it from outside of frozen rows. -/
def PV.noOb : PV → Bool
  | .junk | .atom _ | .sl _ _ | .fptr _ _ _ _ => true
  | .agg l | .tup l | .fn _ l => noObL l
  | .ob _ _ _ _ | .ptr _ _ _ _ | .own _ _ => false
def noObL : List PV → Bool
  | [] => true
  | p :: l => p.noOb && noObL l
end
theorem noObL_all : ∀ l : List PV, noObL l = l.all PV.noOb
  | [] => rfl
  | p :: l => by rw [noObL, noObL_all l]; rfl

section
variable {P : Program} {w0 : Home} {F0 D D' : Nat → Prop} {μ μ' : Nat → Option Nat} {F F' : Nat → Prop} {H : Nat → Option AO} {w w' : World}

theorem getElem_map' (f : PV → PV) (l : List PV) (k : Nat) (h : k < (l.map f).length) : (l.map f)[k] = f (l[k]'(by simpa using h)) := by simp

theorem Rep.ren {p : PV} {v : Value} {ρ : Nat → Nat} (h : Rep D μ F w p v) (hD : ∀ i, D i → D' (ρ i) ∧ μ' (ρ i) = μ i) : Rep D' μ' F w (p.ren ρ) v := by
  induction h with
  | junk v => exact .junk v
  | atom v => exact .atom v
  | agg l vs h1 _ ih => simp only [PV.ren, renL_map]; exact .agg _ vs (by simpa using h1) (fun i hi => by rw [getElem_map']; exact ih i (by simpa using hi))
  | tup l vs h1 _ ih => simp only [PV.ren, renL_map]; exact .tup _ vs (by simpa using h1) (fun i hi => by rw [getElem_map']; exact ih i (by simpa using hi))
  | sl0 sz a cap h1 h2 h3 => simp only [PV.ren, renL_map, List.map_nil]; exact .sl0 sz a cap h1 h2 h3
  | sl sz l b off cap g h1 h2 h3 h4 h5 _ ih =>
    simp only [PV.ren, renL_map]
    have := Rep.sl (D := D') (μ := μ') (F := F) (w := w) sz (l.map (PV.ren ρ)) b off cap g h1 (by simpa using h2) h3 (by simpa using h4) (fun k hk => by rw [getElem_map', ren_cells, List.length_map]; exact h5 k (by simpa using hk))
      (fun k hk c hc => by
        have hk' : k < l.length := by simpa using hk
        have hc' : c < l[k].cells.length := by rw [getElem_map', ren_cells, List.length_map] at hc; exact hc
        have e : (l.map (PV.ren ρ))[k].cells[c] = (l[k].cells[c]).ren ρ := by simp [ren_cells]
        rw [e]; exact ih k hk' c hc')
    simpa using this
  | ob i sz off len cap b h1 hb h2 h3 h4 => exact .ob _ sz off len cap b (hD i h1).1 ((hD i h1).2.trans hb) h2 h3 h4
  | obn i sz h1 hb => exact .obn _ sz (hD i h1).1 ((hD i h1).2.trans hb)
  | ptr i sz k c b h1 hb => exact .ptr _ sz k c b (hD i h1).1 ((hD i h1).2.trans hb)
  | fptr sz l k c b off g h1 h2 h3 _ ih =>
    simp only [PV.ren, renL_map]
    exact .fptr sz (l.map (PV.ren ρ)) k c b off g h1 (by simpa using h2) (fun k hk => by rw [getElem_map', ren_cells, List.length_map]; exact h3 k (by simpa using hk))
      (fun k hk c hc => by
        have hk' : k < l.length := by simpa using hk
        have hc' : c < l[k].cells.length := by rw [getElem_map', ren_cells, List.length_map] at hc; exact hc
        have e : (l.map (PV.ren ρ))[k].cells[c] = (l[k].cells[c]).ren ρ := by simp [ren_cells]
        rw [e]; exact ih k hk' c hc')
  | fn f cap vs h1 _ ih => simp only [PV.ren, renL_map]; exact .fn f _ vs (by simpa using h1) (fun i hi => by rw [getElem_map']; exact ih i (by simpa using hi))

theorem Rep.ren_inv {q : PV} {v : Value} {ρ : Nat → Nat} (h : Rep D μ F w q v) (hD : ∀ i, D (ρ i) → D' i ∧ μ' i = μ (ρ i)) : ∀ p : PV, p.ren ρ = q → Rep D' μ' F w p v := by
  induction h with
  | junk v => intro p hp; cases p <;> simp only [PV.ren] at hp <;> cases hp; exact .junk v
  | atom v => intro p hp; cases p <;> simp only [PV.ren] at hp <;> cases hp; exact .atom v
  | agg l vs h1 _ ih =>
    intro p hp; cases p <;> simp only [PV.ren, renL_map] at hp <;> cases hp
    exact .agg _ vs (by simpa using h1) (fun i hi => ih i (by simpa using hi) _ (by rw [getElem_map']))
  | tup l vs h1 _ ih =>
    intro p hp; cases p <;> simp only [PV.ren, renL_map] at hp <;> cases hp
    exact .tup _ vs (by simpa using h1) (fun i hi => ih i (by simpa using hi) _ (by rw [getElem_map']))
  | sl0 sz a cap h1 h2 h3 =>
    intro p hp
    cases p <;> simp only [PV.ren, renL_map] at hp <;> try (cases hp; done)
    simp only [PV.sl.injEq, List.map_eq_nil_iff] at hp
    obtain ⟨rfl, rfl⟩ := hp
    exact .sl0 _ a cap h1 h2 h3
  | sl sz l b off cap g h1 h2 h3 h4 h5 _ ih =>
    intro p hp; cases p <;> simp only [PV.ren, renL_map] at hp <;> try (cases hp; done)
    rename_i sz' l'
    simp only [PV.sl.injEq] at hp
    obtain ⟨rfl, rfl⟩ := hp
    have := Rep.sl (D := D') (μ := μ') (F := F) (w := w) sz' l' b off cap g h1 (by simpa using h2) h3 (by simpa using h4)
      (fun k hk => by have := h5 k (by simpa using hk); rwa [getElem_map', ren_cells, List.length_map] at this)
      (fun k hk c hc => ih k (by simpa using hk) c (by rw [getElem_map', ren_cells, List.length_map]; exact hc) _ (by simp [ren_cells]))
    simpa using this
  | ob i sz off len cap b h1 hb h2 h3 h4 =>
    intro p hp; cases p <;> simp only [PV.ren] at hp <;> cases hp
    exact .ob _ sz off len cap b (hD _ h1).1 ((hD _ h1).2.trans hb) h2 h3 h4
  | obn i sz h1 hb =>
    intro p hp; cases p <;> simp only [PV.ren] at hp <;> cases hp
    exact .obn _ sz (hD _ h1).1 ((hD _ h1).2.trans hb)
  | ptr i sz k c b h1 hb =>
    intro p hp; cases p <;> simp only [PV.ren] at hp <;> cases hp
    exact .ptr _ sz k c b (hD _ h1).1 ((hD _ h1).2.trans hb)
  | fptr sz l k c b off g h1 h2 h3 _ ih =>
    intro p hp; cases p <;> simp only [PV.ren, renL_map] at hp <;> try (cases hp; done)
    rename_i sz' l' k' c'
    simp only [PV.fptr.injEq] at hp
    obtain ⟨rfl, rfl, rfl, rfl⟩ := hp
    exact .fptr sz' l' k' c' b off g h1 (by simpa using h2) (fun k hk => by have := h3 k (by simpa using hk); rwa [getElem_map', ren_cells, List.length_map] at this)
      (fun k hk c hc => ih k (by simpa using hk) c (by rw [getElem_map', ren_cells, List.length_map]; exact hc) _ (by simp [ren_cells]))
  | fn f cap vs h1 _ ih =>
    intro p hp; cases p <;> simp only [PV.ren, renL_map] at hp <;> cases hp
    exact .fn f _ vs (by simpa using h1) (fun i hi => ih i (by simpa using hi) _ (by rw [getElem_map']))

theorem all_get {f : PV → Bool} {l : List PV} (h : l.all f = true) (i : Nat) (hi : i < l.length) : f l[i] = true := List.all_eq_true.1 h _ (List.getElem_mem hi)

theorem Rep.pureAny {p : PV} {v : Value} (h : Rep D μ F w p v) (hp : p.pure = true) : Rep D' μ' F w p v := by
  induction h with
  | junk v => exact .junk v
  | atom v => exact .atom v
  | agg l vs h1 _ ih => simp only [PV.pure, pureL_all] at hp; exact .agg _ vs h1 (fun i hi => ih i hi (all_get hp i hi))
  | tup l vs h1 _ ih => simp only [PV.pure, pureL_all] at hp; exact .tup _ vs h1 (fun i hi => ih i hi (all_get hp i hi))
  | sl0 sz a cap h1 h2 h3 => exact .sl0 sz a cap h1 h2 h3
  | sl sz l b off cap g h1 h2 h3 h4 h5 _ ih => simp only [PV.pure, pureL_all] at hp; exact .sl sz l b off cap g h1 h2 h3 h4 h5 (fun k hk c hc => ih k hk c hc (all_get (pure_cells (all_get hp k hk)) c hc))
  | ob i sz off len cap b h1 hb h2 h3 h4 => cases hp
  | obn i sz h1 hb => cases hp
  | ptr i sz k c b h1 hb => cases hp
  | fptr sz l k c b off g h1 h2 h3 _ ih => simp only [PV.pure, pureL_all] at hp; exact .fptr sz l k c b off g h1 h2 h3 (fun k hk c hc => ih k hk c hc (all_get (pure_cells (all_get hp k hk)) c hc))
  | fn f cap vs h1 _ ih => simp only [PV.pure, pureL_all] at hp; exact .fn f _ vs h1 (fun i hi => ih i hi (all_get hp i hi))

theorem Rep.flatAny {p : PV} {v : Value} (h : Rep D μ F w p v) (hp : p.flatB = true) : Rep D μ F' w p v := by
  induction h with
  | junk v => exact .junk v
  | atom v => exact .atom v
  | agg l vs h1 _ ih => simp only [PV.flatB, flatL_all] at hp; exact .agg _ vs h1 (fun i hi => ih i hi (all_get hp i hi))
  | tup l vs h1 _ ih => simp only [PV.flatB, flatL_all] at hp; exact .tup _ vs h1 (fun i hi => ih i hi (all_get hp i hi))
  | sl0 sz a cap h1 h2 h3 => exact .sl0 sz a cap h1 h2 h3
  | sl sz l b off cap g h1 h2 h3 h4 h5 _ ih =>
    cases l with
    | nil => exact .sl0 sz _ cap h3 (fun e => by cases e) (fun x hx => by cases hx; rfl)
    | cons a l => cases hp
  | ob i sz off len cap b h1 hb h2 h3 h4 => exact .ob i sz off len cap b h1 hb h2 h3 h4
  | obn i sz h1 hb => exact .obn i sz h1 hb
  | ptr i sz k c b h1 hb => exact .ptr i sz k c b h1 hb
  | fptr sz l k c b off g h1 h2 h3 _ ih => cases hp
  | fn f cap vs h1 _ ih => simp only [PV.flatB, flatL_all] at hp; exact .fn f _ vs h1 (fun i hi => ih i hi (all_get hp i hi))
theorem flat_cells {p : PV} (h : p.flatB = true) : p.cells.all PV.flatB = true := by
  cases p with
  | agg l => simpa [PV.cells, PV.flatB, flatL_all] using h
  | _ => simpa [PV.cells] using h
theorem gl {a b : List PV} (h : a = b) {c : Nat} (hc : c < a.length) : a[c] = b[c]'(by rw [← h]; exact hc) := by subst h; rfl

/-- Own objects looked at as frozen rows, but for some of them. -/
def sealed (H : Nat → Option AO) (keep : Nat → Bool) : Nat → PV → PV
  | 0, p => p
  | n + 1, .agg l => .agg (l.map (sealed H keep n))
  | n + 1, .tup l => .tup (l.map (sealed H keep n))
  | n + 1, .fn f l => .fn f (l.map (sealed H keep n))
  | n + 1, .ob i sz off len => if keep i then .ob i sz off len else match H i with
    | some o => if o.sz = sz ∧ off + len ≤ o.els.length then .sl sz (((o.els.drop off).take len).map (sealed H keep n)) else .junk
    | none => .junk
  | n + 1, .ptr i sz k c => if keep i then .ptr i sz k c else match H i with
    | some o => if o.sz = sz then .fptr sz (o.els.map (sealed H keep n)) k c else .junk
    | none => .junk
  | _ + 1, p => p

theorem sealed_cells (H : Nat → Option AO) (keep : Nat → Bool) (n : Nat) (p : PV) : (∃ l, p = .agg l ∧ n ≠ 0) ∨ (sealed H keep n p).cells = p.cells ∧ n = 0 ∨ (p.cells = [p] ∧ (sealed H keep n p).cells = [sealed H keep n p]) := by
  cases n with
  | zero => exact .inr (.inl ⟨rfl, rfl⟩)
  | succ n =>
    cases p <;> first
      | exact .inl ⟨_, rfl, by omega⟩
      | exact .inr (.inr ⟨rfl, rfl⟩)
      | (refine .inr (.inr ⟨rfl, ?_⟩); simp only [sealed]; split <;> first | rfl | (split <;> first | rfl | (split <;> rfl)))
theorem sealed_len (H : Nat → Option AO) (keep : Nat → Bool) (n : Nat) (p : PV) : (sealed H keep n p).cells.length = p.cells.length := by
  rcases sealed_cells H keep n p with ⟨l, rfl, hn⟩ | ⟨h, _⟩ | ⟨h1, h2⟩
  · obtain ⟨m, rfl⟩ : ∃ m, n = m + 1 := ⟨n - 1, by omega⟩
    simp [sealed, PV.cells]
  · rw [h]
  · rw [h1, h2]; rfl

theorem Rep.sealed (hH : HeapSim w0 F0 D μ F H w) (keep : Nat → Bool) (F2 : Nat → Prop) (hF : ∀ b, F b → F2 b) (hO : ∀ i o b, keep i = false → H i = some o → μ i = some b → F2 b) :
    ∀ (n : Nat) (p : PV) (v : Value), Rep D μ F w p v → Rep D μ F2 w (sealed H keep n p) v := by
  intro n
  induction n using Nat.strongRecOn with
  | _ n ih =>
    intro p v h
    have same : Rep D μ F2 w p v := h.stay (Stay.refl _ _) (fun _ h => ⟨h, rfl⟩) hF
    cases n with
    | zero => exact same
    | succ n =>
      cases h with
      | junk => exact same
      | atom => exact same
      | agg l vs h1 h2 => exact .agg _ vs (by simpa using h1) (fun i hi => by rw [getElem_map']; exact ih n (by omega) _ _ (h2 i (by simpa using hi)))
      | tup l vs h1 h2 => exact .tup _ vs (by simpa using h1) (fun i hi => by rw [getElem_map']; exact ih n (by omega) _ _ (h2 i (by simpa using hi)))
      | fn f l vs h1 h2 => exact .fn f _ vs (by simpa using h1) (fun i hi => by rw [getElem_map']; exact ih n (by omega) _ _ (h2 i (by simpa using hi)))
      | sl0 => exact same
      | sl => exact same
      | fptr => exact same
      | ptr i sz k c b h1 hb =>
        simp only [Go.Proofs.YtfnkciboencifaaDoor.sealed]
        split
        · exact same
        · rename_i hk
          have hk' : keep i = false := by simpa using hk
          split
          · rename_i o ho
            split
            · rename_i hsz
              obtain ⟨A, e, a1, a2, a3, a4⟩ := hH.ok ho hb
              rw [hsz] at a2 a3
              have hgk : ∀ k (hk : k < (o.els.map (Go.Proofs.YtfnkciboencifaaDoor.sealed H keep n)).length), (o.els.map (Go.Proofs.YtfnkciboencifaaDoor.sealed H keep n))[k] = Go.Proofs.YtfnkciboencifaaDoor.sealed H keep n (o.els[k]'(by simpa using hk)) := fun k hk => by simp
              have := Rep.fptr (D := D) (μ := μ) (F := F2) (w := w) sz (o.els.map (Go.Proofs.YtfnkciboencifaaDoor.sealed H keep n)) k c b 0 (fun j => A.getD j undef) (hO i o b hk' ho hb)
                (fun j hj => by
                  simp only [World.cell?, a1, Nat.zero_add]
                  exact getD_lt (by simp at hj; omega))
                (fun k hk => by rw [hgk k hk, sealed_len]; exact a3 _ _)
                (fun k hk c hc => by
                  have hk2 : k < o.els.length := by simpa using hk
                  have hc2 : c < (o.els[k]).cells.length := by rw [hgk k hk, sealed_len] at hc; exact hc
                  have hr := a4 k hk2 c hc2
                  rw [hsz] at hr
                  rcases sealed_cells H keep n (o.els[k]) with ⟨l, hl, hn⟩ | ⟨hs, hn⟩ | ⟨g1, g2⟩
                  · obtain ⟨m, rfl⟩ : ∃ m, n = m + 1 := ⟨n - 1, by omega⟩
                    have e2 : (o.els.map (Go.Proofs.YtfnkciboencifaaDoor.sealed H keep (m + 1)))[k].cells[c] = Go.Proofs.YtfnkciboencifaaDoor.sealed H keep m ((o.els[k]).cells[c]) := by
                      have e3 : (o.els.map (Go.Proofs.YtfnkciboencifaaDoor.sealed H keep (m + 1)))[k].cells = (l.map (Go.Proofs.YtfnkciboencifaaDoor.sealed H keep m)) := by rw [hgk k hk, hl]; rfl
                      have e4 : (o.els[k]).cells = l := by rw [hl]; rfl
                      exact (gl e3 hc).trans (by rw [List.getElem_map]; congr 1; exact (gl e4 hc2).symm)
                    rw [e2]
                    exact ih m (by omega) _ _ hr
                  · subst hn
                    have e2 : (o.els.map (Go.Proofs.YtfnkciboencifaaDoor.sealed H keep 0))[k].cells[c] = (o.els[k]).cells[c] := by
                      have : (o.els.map (Go.Proofs.YtfnkciboencifaaDoor.sealed H keep 0))[k] = o.els[k] := by rw [hgk k hk]; rfl
                      simp only [this]
                    rw [e2]
                    exact hr.stay (Stay.refl _ _) (fun _ h => ⟨h, rfl⟩) hF
                  · have hc0 : c = 0 := by rw [g1] at hc2; simpa using hc2
                    subst hc0
                    have e2 : (o.els.map (Go.Proofs.YtfnkciboencifaaDoor.sealed H keep n))[k].cells[0] = Go.Proofs.YtfnkciboencifaaDoor.sealed H keep n (o.els[k]) := by
                      have e3 : (o.els.map (Go.Proofs.YtfnkciboencifaaDoor.sealed H keep n))[k].cells = [Go.Proofs.YtfnkciboencifaaDoor.sealed H keep n (o.els[k])] := by rw [hgk k hk, g2]
                      simp only [e3, List.getElem_cons_zero]
                    have e5 : (o.els[k]).cells[0] = o.els[k] := by simp only [g1, List.getElem_cons_zero]
                    rw [e2]
                    rw [e5] at hr
                    exact ih n (by omega) _ _ hr)
              simpa using this
            · exact .junk _
          · exact .junk _
      | obn i sz h1 h2 =>
        simp only [Go.Proofs.YtfnkciboencifaaDoor.sealed]
        split
        · exact same
        · split
          · split
            · simp only [List.take_zero, List.map_nil]
              exact .sl0 sz none 0 (by unfold maxLen; omega) (fun _ => rfl) (fun x hx => by cases hx)
            · exact .junk _
          · exact .junk _
      | ob i sz off len cap b h1 hb h2 h3 h4 =>
        simp only [Go.Proofs.YtfnkciboencifaaDoor.sealed]
        split
        · exact same
        · rename_i hk
          have hk' : keep i = false := by simpa using hk
          split
          · rename_i o ho
            split
            · rename_i hc
              obtain ⟨hsz, hle⟩ := hc
              obtain ⟨A, e, a1, a2, a3, a4⟩ := hH.ok ho hb
              rw [hsz] at a2 a3
              have hlen : (((o.els.drop off).take len).map (Go.Proofs.YtfnkciboencifaaDoor.sealed H keep n)).length = len := by simp; omega
              have hgk : ∀ k (hk : k < (((o.els.drop off).take len).map (Go.Proofs.YtfnkciboencifaaDoor.sealed H keep n)).length), (((o.els.drop off).take len).map (Go.Proofs.YtfnkciboencifaaDoor.sealed H keep n))[k] = Go.Proofs.YtfnkciboencifaaDoor.sealed H keep n (o.els[off + k]'(by simp at hk; omega)) := fun k hk => by simp
              have hz : ∀ k (hk : k < (((o.els.drop off).take len).map (Go.Proofs.YtfnkciboencifaaDoor.sealed H keep n)).length), (((o.els.drop off).take len).map (Go.Proofs.YtfnkciboencifaaDoor.sealed H keep n))[k].cells.length = sz := fun k hk => by rw [hgk k hk, sealed_len]; exact a3 _ _
              have := Rep.sl (D := D) (μ := μ) (F := F2) (w := w) sz (((o.els.drop off).take len).map (Go.Proofs.YtfnkciboencifaaDoor.sealed H keep n)) b (off * sz) cap (fun j => A.getD (off * sz + j) undef) (hO i o b hk' ho hb) (by rw [hlen]; exact h2) h3
                (fun j hj => by
                  rw [hlen] at hj
                  have : (off + len) * sz ≤ A.size := Nat.le_trans (Nat.mul_le_mul_right _ hle) a2
                  rw [Nat.add_mul] at this
                  simp only [World.cell?, a1]
                  exact getD_lt (by omega)) hz
                (fun k hk c hc => by
                  have hk2 : k < len := by rw [hlen] at hk; exact hk
                  have hc2 : c < (o.els[off + k]'(by omega)).cells.length := by rw [hgk k hk, sealed_len] at hc; exact hc
                  have hr := a4 (off + k) (by omega) c hc2
                  rw [hsz] at hr
                  have e1 : off * sz + (k * sz + c) = (off + k) * sz + c := by rw [Nat.add_mul]; omega
                  simp only [e1]
                  rcases sealed_cells H keep n (o.els[off + k]'(by omega)) with ⟨l, hl, hn⟩ | ⟨hs, hn⟩ | ⟨g1, g2⟩
                  · obtain ⟨m, rfl⟩ : ∃ m, n = m + 1 := ⟨n - 1, by omega⟩
                    have e2 : (((o.els.drop off).take len).map (Go.Proofs.YtfnkciboencifaaDoor.sealed H keep (m + 1)))[k].cells[c] = Go.Proofs.YtfnkciboencifaaDoor.sealed H keep m ((o.els[off + k]'(by omega)).cells[c]) := by
                      have e3 : (((o.els.drop off).take len).map (Go.Proofs.YtfnkciboencifaaDoor.sealed H keep (m + 1)))[k].cells = (l.map (Go.Proofs.YtfnkciboencifaaDoor.sealed H keep m)) := by rw [hgk k hk, hl]; rfl
                      have e4 : (o.els[off + k]'(by omega)).cells = l := by rw [hl]; rfl
                      exact (gl e3 hc).trans (by rw [List.getElem_map]; congr 1; exact (gl e4 hc2).symm)
                    rw [e2]
                    exact ih m (by omega) _ _ hr
                  · subst hn
                    have e2 : (((o.els.drop off).take len).map (Go.Proofs.YtfnkciboencifaaDoor.sealed H keep 0))[k].cells[c] = (o.els[off + k]'(by omega)).cells[c] := by
                      have : (((o.els.drop off).take len).map (Go.Proofs.YtfnkciboencifaaDoor.sealed H keep 0))[k] = o.els[off + k]'(by omega) := by rw [hgk k hk]; rfl
                      simp only [this]
                    rw [e2]
                    exact hr.stay (Stay.refl _ _) (fun _ h => ⟨h, rfl⟩) hF
                  · have hc0 : c = 0 := by rw [g1] at hc2; simpa using hc2
                    subst hc0
                    have e2 : (((o.els.drop off).take len).map (Go.Proofs.YtfnkciboencifaaDoor.sealed H keep n))[k].cells[0] = Go.Proofs.YtfnkciboencifaaDoor.sealed H keep n (o.els[off + k]'(by omega)) := by
                      have e3 : (((o.els.drop off).take len).map (Go.Proofs.YtfnkciboencifaaDoor.sealed H keep n))[k].cells = [Go.Proofs.YtfnkciboencifaaDoor.sealed H keep n (o.els[off + k]'(by omega))] := by rw [hgk k hk, g2]
                      simp only [e3, List.getElem_cons_zero]
                    have e5 : (o.els[off + k]'(by omega)).cells[0] = o.els[off + k]'(by omega) := by simp only [g1, List.getElem_cons_zero]
                    rw [e2]
                    rw [e5] at hr
                    exact ih n (by omega) _ _ hr)
              rw [hlen] at this
              exact this
            · exact .junk _
          · exact .junk _

mutual
theorem noOb_sealed (H : Nat → Option AO) (keep : Nat → Bool) : ∀ (n : Nat) (p : PV), p.noOb = true → sealed H keep n p = p
  | 0, p, _ => rfl
  | n + 1, .agg l, h => by simp only [PV.noOb] at h; simp only [sealed]; rw [noObL_sealed H keep n l h]
  | n + 1, .tup l, h => by simp only [PV.noOb] at h; simp only [sealed]; rw [noObL_sealed H keep n l h]
  | n + 1, .fn f l, h => by simp only [PV.noOb] at h; simp only [sealed]; rw [noObL_sealed H keep n l h]
  | _ + 1, .ob _ _ _ _, h => by cases h
  | _ + 1, .ptr _ _ _ _, h => by cases h
  | _ + 1, .junk, _ => rfl
  | _ + 1, .atom _, _ => rfl
  | _ + 1, .sl _ _, _ => rfl
  | _ + 1, .own _ _, _ => rfl
  | _ + 1, .fptr _ _ _ _, _ => rfl
theorem noObL_sealed (H : Nat → Option AO) (keep : Nat → Bool) : ∀ (n : Nat) (l : List PV), noObL l = true → l.map (sealed H keep n) = l
  | _, [], _ => rfl
  | n, p :: l, h => by
    simp only [noObL, Bool.and_eq_true] at h
    rw [List.map_cons, noOb_sealed H keep n p h.1, noObL_sealed H keep n l h.2]
end
end
end Go.Proofs.YtfnkciboencifaaDoor

