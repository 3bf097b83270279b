/-
  Walk: (collate.Spec).counted, the rest.
-/
import Derived.Test.YtfnkciboencifaaDoorBCnt
set_option linter.all false
namespace Go.Proofs.YtfnkciboencifaaDoor.Elder
open Go.RowKit Go.Shelf
def dropSkip (skip : List ByteArray) : List ByteArray → List ByteArray
  | [] => []
  | [x] => [x]
  | x :: y :: l => if Lib.containsS skip (foldS x) then dropSkip skip (y :: l) else x :: y :: l
theorem dropSkip_yes {skip : List ByteArray} {x : ByteArray} {l : List ByteArray} (h : 1 ≤ l.length) (hc : Lib.containsS skip (foldS x) = true) : dropSkip skip (x :: l) = dropSkip skip l := by
  cases l with
  | nil => simp at h
  | cons y l => rw [dropSkip, if_pos hc]
theorem dropSkip_no {skip : List ByteArray} {x : ByteArray} {l : List ByteArray} (hc : Lib.containsS skip (foldS x) = false) : dropSkip skip (x :: l) = x :: l := by
  cases l with
  | nil => rfl
  | cons y l => rw [dropSkip, if_neg (by rw [hc]; decide)]
theorem dropSkip_short {skip l : List ByteArray} (h : l.length ≤ 1) : dropSkip skip l = l := by
  match l, h with
  | [], _ => rfl
  | [x], _ => rfl
theorem ls_drop (l : List ByteArray) (k i : Nat) : ls (l.drop k) i = ls l (k + i) := by simp [ls, List.getD_eq_getElem?_getD, List.getElem?_drop]
theorem StrsAt_drop {W : World} {A k : Nat} {ws : List ByteArray} (hmax : ws.length ≤ 9223372036854775807) (hcells : ∀ i, i < ws.length → W.cell? ⟨A, i, none⟩ = some (.string (ls ws i))) (hsz : ∀ i, (ls ws i).size ≤ 4294967296) :
    StrsAt W (.slice (some ⟨A, k, none⟩) (ws.length - k) (ws.length - k)) (ws.drop k) := by
  refine ⟨⟨_, _, by rw [List.length_drop], by rw [List.length_drop]; exact Nat.le_refl _, by unfold maxLen; omega, by rintro ⟨⟩, ?_⟩, fun i => by rw [ls_drop]; have := hsz (k + i); omega⟩
  rintro x ⟨⟩
  refine ⟨rfl, fun i hi => ?_⟩
  rw [List.length_drop] at hi
  simp only [ls_drop]
  exact hcells (k + i) (by omega)
def lenOf : Value → Nat | .slice _ n _ => n | _ => 0
set_option maxRecDepth 100000 in
theorem counted_any (v : Value) (d : SpecD) (s : ByteArray) (w : World) (h : SpecAt w v d) (hs : s.size ≤ 4294967296) :
    Calls Tryd.prog 67 #[v, .string s] w fun e w' => ∃ u, e = .returned u ∧ StrsAt w' u (dropSkip d.skip (wordsS s)) ∧ Ext w w' := by
  obtain ⟨vs, vo, rfl, hsk, ho⟩ := h
  have c1 := fun W => Fields_any s W hs
  have hsz := words_sizes s
  generalize wordsS s = ws at *
  have c1' := fun W => Lib.hid (c1 W)
  have hws : ∀ i, (ls ws i).size ≤ 4294967296 := fun i => by
    by_cases hi : i < ws.length
    · have := hsz _ (List.getElem_mem hi)
      rw [ls_get hi] at this
      omega
    · have : ls ws i = ByteArray.empty := by simp [ls, List.getD_eq_getElem?_getD, hi]
      rw [this]; decide
  have hws' := Lib.hid hws
  clear hws hsz c1
  go_enter Tryd.func67, Tryd.ntmps67
  go_wp2_with fail
  refine ((c1' _).out).mono ?_
  rintro e w1 ⟨A, rfl, hcells, hmax, _, hE⟩
  have k1 := hE.box (i := 1) rfl
  have hE1 := hE.of_alloc
  clear hE c1'
  unfold maxLen at hmax
  have hcells' := Lib.hid hcells
  clear hcells
  go_wp2_with fail
  go_loopw [5] (fun u wr => ∃ k : Nat, k ≤ ws.length ∧ u = .slice (some ⟨A, k, none⟩) (ws.length - k) (ws.length - k) ∧ dropSkip d.skip ws = dropSkip d.skip (ws.drop k) ∧ Ext w1 wr) (fun u _ => lenOf u)
  case atStart => exact ⟨0, Nat.zero_le _, rfl, rfl, Ext.refl _⟩
  case round =>
    obtain ⟨k, hk, rfl, hinv, hEr⟩ := hrel
    by_cases hlt : 1 < ws.length - k
    · have hkl : k < ws.length := by omega
      have hlt2 : (1 : Int) < ((ws.length - k : Nat) : Int) := by omega
      have hlt3 : 0 < ws.length - k := by omega
      have kr := hEr.cell k1
      have cr := hEr.cell (hcells'.out k hkl)
      have hcf := fun W => Lib.hid (Fold_any (ls ws k) W (hws'.out k))
      have hcc := fun W (hE : Ext wr.drew W) => Lib.hid (Contains_any vs d.skip (foldS (ls ws k)) W (hsk.ext (((hE1.trans hEr).trans (Ext.drew _)).trans hE)))
      have hE' := Lib.hid hEr
      have hE1' := Lib.hid hE1
      clear k1 hEr hE1
      rw [drop_ls hkl] at hinv
      have hinv' := Lib.hid hinv
      clear hinv
      generalize hb : Lib.containsS d.skip (foldS (ls ws k)) = b at hcc
      have hb' := Lib.hid hb
      clear hb
      go_wp2_with fail
      refine wp_region_growL 12 [(9, fun v _ => v = .string (foldS (ls ws k))), (10, fun v _ => v = .bool b)] (by kernel_rfl) (by kernel_rfl) (.cons (fun _ _ _ _ h => h) (.cons (fun _ _ _ _ h => h) .nil)) (fun s => ?_)
      simp only [List.take_succ_cons, List.take_zero, List.drop_succ_cons, List.drop_zero]
      repeat (apply RunG.det rfl rfl; (· (intro W hW hF; have qq0 := Ext.cell hW kr; have qq1 := Ext.cell hW cr; clear hW hF; unfold detRun; go_simp; exact ⟨Ext.refl _, rfl⟩)); simp only [Act.put, List.setIfInBounds_toArray, List.set_cons_zero, List.set_cons_succ, Nat.reduceAdd])
      apply RunG.gen rfl rfl
      · intro W hW hF
        unfold genRun
        go_simp
        exact ((hcf W).out).mono fun e w' ⟨h1, h2⟩ => ⟨_, h1, h2, rfl⟩
      simp only [Act.put, List.setIfInBounds_toArray, List.set_cons_zero, List.set_cons_succ, Nat.reduceAdd]
      apply RunG.gen rfl rfl
      · intro W hW hF
        have f9 : s 9 = .string (foldS (ls ws k)) := hF.get 9 rfl (by kernel_rfl) (by kernel_rfl)
        unfold genRun
        go_simp
        exact ((hcc W hW).out).mono fun e w' ⟨h1, h2⟩ => ⟨_, h1, h2 ▸ Ext.refl _, rfl⟩
      simp only [Act.put, List.setIfInBounds_toArray, List.set_cons_zero, List.set_cons_succ, Nat.reduceAdd]
      repeat (apply RunG.det rfl rfl; (· (intro W hW hF; clear hW hF; unfold detRun; go_simp; exact ⟨Ext.refl _, rfl⟩)); simp only [Act.put, List.setIfInBounds_toArray, List.set_cons_zero, List.set_cons_succ, Nat.reduceAdd])
      refine RunG.done ?_
      intro W hW hF _
      have f10 : s 10 = .bool b := hF 10 (by decide) _ rfl
      rw [f10]
      have hE2 : Hid (Ext w1 W) := (hE'.out.trans (Ext.drew _)).trans hW
      clear hW hF hcf hcc
      cases b
      · have hfin : dropSkip d.skip ws = ws.drop k := (hinv'.out.trans (dropSkip_no hb'.out)).trans (drop_ls hkl).symm
        have hres : StrsAt W (.slice (some ⟨A, k, none⟩) (ws.length - k) (ws.length - k)) (dropSkip d.skip ws) := by
          rw [hfin]; exact StrsAt_drop hmax (fun i hi => hE2.out.cell (hcells'.out i hi)) hws'.out
        have hres' := Lib.hid hres
        clear hfin hres
        go_wp2_with fail
        go_ret
        exact ⟨_, rfl, hres'.out, hE1'.out.trans hE2.out⟩
      · have hfin := Lib.hid (hinv'.out.trans (dropSkip_yes (by simp; omega) hb'.out))
        go_wp2_with fail
        refine ⟨⟨k + 1, by omega, ?_, hfin.out, hE2.out⟩, ?_⟩
        · simp; omega
        · simp [lenOf]; omega
    · have hfin : dropSkip d.skip ws = ws.drop k := hinv.trans (dropSkip_short (by simp; omega))
      have hres : StrsAt wr (.slice (some ⟨A, k, none⟩) (ws.length - k) (ws.length - k)) (dropSkip d.skip ws) := by
        rw [hfin]; exact StrsAt_drop hmax (fun i hi => hEr.cell (hcells'.out i hi)) hws'.out
      have hres' := Lib.hid hres
      have hE' := Lib.hid hEr
      have hE1' := Lib.hid hE1
      have hlt2 : ¬ (1 : Int) < ((ws.length - k : Nat) : Int) := by omega
      have hlt4 : decide ((1 : Int) < ((ws.length - k : Nat) : Int)) = false := by simpa using hlt2
      clear hfin hres hEr hE1 hinv k1 hlt2
      go_wp2_with fail
      go_quiet (fail)
      go_wp2_with fail
      go_ret
      exact ⟨_, rfl, hres'.out.ext (Ext.drewN _ _), (hE1'.out.trans hE'.out).trans (Ext.drewN _ _)⟩
end Go.Proofs.YtfnkciboencifaaDoor.Elder
