/-
  Walk: the region of (collate.Spec).key that appends to both halves of the key.
-/
import Derived.Test.YtfnkciboencifaaDoorBPush
set_option linter.all false
namespace Go.Proofs.YtfnkciboencifaaDoor.Elder
open Go.RowKit Go.Shelf
def regAt (n : Nat) : Code → Option Code
  | .region id ops d => if id = n then some (.region id ops d) else none
  | .seq a b => match regAt n a with
    | some c => some c
    | none => regAt n b
  | .cond _ a b => match regAt n a with
    | some c => some c
    | none => regAt n b
  | .block _ c => regAt n c
  | .loop c => regAt n c
  | .scope c => regAt n c
  | _ => none
noncomputable def key13 : Code := ((Tryd.f46.body.bind (regAt 13)).getD .skip)
set_option maxRecDepth 1000000 in
theorem key13_wp {Q : Exit → Act → World → Prop} (ga gb : Nat) (f s : Value) (c : UInt8) (g p : Int) (m1 m2 : List Int) (w4 w0 : World) (u0 u1 u2 u3 u4 u9 u10 u11 u13 u14 u15 u16 u17 u18 u19 u20 u21 u22 u23 u24 u25 u26 u27 u28 u29 u30 u31 u32 u33 u34 u35 u36 u37 u38 u39 u40 u41 u42 u43 u44 u45 u46 u47 u48 u49 u50 u51 u52 u53 u54 u55 u56 u57 u58 u59 u60 u61 u62 u63 u64 u65 u66 u67 u68 u69 u70 u71 u72 u73 u74 u75 u76 u77 u78 u79 u80 u81 u82 u83 u84 u85 u86 u87 u88 u89 u90 u91 u92 u93 u94 u95 u96 u97 u98 u99 u100 u101 u102 u103 u104 u105 u106 u107 u108 u109 u110 u111 u112 u113 u114 u115 u116 u117 u118 u119 u120 u121 u122 u123 u124 u125 u126 : Value)
    (hgc : w4.cell? ⟨ga, c.toNat, none⟩ = some (.int .i64 g)) (hpc : w4.cell? ⟨gb, c.toNat, none⟩ = some (.int .i64 p)) (hg : -1 ≤ g ∧ g ≤ 64) (hT' : Hid (Two w4 w0 f s m1 m2)) (hc : (c.toNat : Int) < 256)
    (hl1 : m1.length ≤ 60000000) (hl2 : m2.length ≤ 60000000)
    (hQ : ∀ W f' s' v59 v60 v61 v62 v63 v64 v65 v66 v67 v68 v69 v70 v71, Two w4 W f' s' (m1 ++ [2 + g]) (m2 ++ [p]) → Q .normal ⟨(u0 :: u1 :: u2 :: u3 :: u4 :: Value.pointer (some ⟨ga, 0, none⟩) :: Value.pointer (some ⟨gb, 0, none⟩) :: f' :: s' :: u9 :: u10 :: u11 :: Value.int .u8 (c.toNat : Nat) :: u13 :: u14 :: u15 :: u16 :: u17 :: u18 :: u19 :: u20 :: u21 :: u22 :: u23 :: u24 :: u25 :: u26 :: u27 :: u28 :: u29 :: u30 :: u31 :: u32 :: u33 :: u34 :: u35 :: u36 :: u37 :: u38 :: u39 :: u40 :: u41 :: u42 :: u43 :: u44 :: u45 :: u46 :: u47 :: u48 :: u49 :: u50 :: u51 :: u52 :: u53 :: u54 :: u55 :: u56 :: u57 :: u58 :: v59 :: v60 :: v61 :: v62 :: v63 :: v64 :: v65 :: v66 :: v67 :: v68 :: v69 :: v70 :: v71 :: u72 :: u73 :: u74 :: u75 :: u76 :: u77 :: u78 :: u79 :: u80 :: u81 :: u82 :: u83 :: u84 :: u85 :: u86 :: u87 :: u88 :: u89 :: u90 :: u91 :: u92 :: u93 :: u94 :: u95 :: u96 :: u97 :: u98 :: u99 :: u100 :: u101 :: u102 :: u103 :: u104 :: u105 :: u106 :: u107 :: u108 :: u109 :: u110 :: u111 :: u112 :: u113 :: u114 :: u115 :: u116 :: u117 :: u118 :: u119 :: u120 :: u121 :: u122 :: u123 :: u124 :: u125 :: u126 :: []).toArray, []⟩ W) :
    Code.wp Tryd.prog key13 Q ⟨(u0 :: u1 :: u2 :: u3 :: u4 :: Value.pointer (some ⟨ga, 0, none⟩) :: Value.pointer (some ⟨gb, 0, none⟩) :: f :: s :: u9 :: u10 :: u11 :: Value.int .u8 (c.toNat : Nat) :: u13 :: u14 :: u15 :: u16 :: u17 :: u18 :: u19 :: u20 :: u21 :: u22 :: u23 :: u24 :: u25 :: u26 :: u27 :: u28 :: u29 :: u30 :: u31 :: u32 :: u33 :: u34 :: u35 :: u36 :: u37 :: u38 :: u39 :: u40 :: u41 :: u42 :: u43 :: u44 :: u45 :: u46 :: u47 :: u48 :: u49 :: u50 :: u51 :: u52 :: u53 :: u54 :: u55 :: u56 :: u57 :: u58 :: u59 :: u60 :: u61 :: u62 :: u63 :: u64 :: u65 :: u66 :: u67 :: u68 :: u69 :: u70 :: u71 :: u72 :: u73 :: u74 :: u75 :: u76 :: u77 :: u78 :: u79 :: u80 :: u81 :: u82 :: u83 :: u84 :: u85 :: u86 :: u87 :: u88 :: u89 :: u90 :: u91 :: u92 :: u93 :: u94 :: u95 :: u96 :: u97 :: u98 :: u99 :: u100 :: u101 :: u102 :: u103 :: u104 :: u105 :: u106 :: u107 :: u108 :: u109 :: u110 :: u111 :: u112 :: u113 :: u114 :: u115 :: u116 :: u117 :: u118 :: u119 :: u120 :: u121 :: u122 :: u123 :: u124 :: u125 :: u126 :: []).toArray, []⟩ w0 := by
  conv => arg 2; whnf
  obtain ⟨hg1, hg2⟩ := hg
  refine wp_region_growsL 13 (pushG w4 w0 5 6 11 12 f s m1 m2 (2 + g) p) (pushPre w4 w0 6 12 f s m1 m2) (pushR 6 12 f s) (pushY 6 12) (by kernel_rfl) (by kernel_rfl) (push_pre hT'.out) (push_mono hT'.out) pushY_symm (push_pre0 hT'.out) (fun t => ?_)
  simp only [List.take_succ_cons, List.take_zero, List.drop_succ_cons, List.drop_zero]
  repeat (apply RunG.det rfl rfl; (· (intro W hW hF; have qq0 := hW.1.cell hgc; have qq1 := hW.1.cell hpc; clear hW hF; unfold detRun; go_simp; exact ⟨gb_refl _ _, rfl⟩)); dsimp only [Act.put, List.setIfInBounds_toArray, List.set_cons_zero, List.set_cons_succ, Nat.reduceAdd])
  apply RunG.genY rfl rfl
  · intro W hW hF
    have hz1 := hW.2.1
    clear hW hF
    unfold genRun
    go_simp
    have hwr : IntKind.i64.wrap (2 + g) = 2 + g := by simp only [IntKind.wrap, IntKind.bits, IntKind.signed]; first | omega | (simp; omega)
    rw [hwr]
    exact ⟨gb_alloc _ _, newInt.new _ _ _ hz1, fun _ _ _ _ _ _ h => by simp at h⟩
  dsimp only [Act.put, List.setIfInBounds_toArray, List.set_cons_zero, List.set_cons_succ, Nat.reduceAdd]
  apply RunG.genY rfl rfl
  · intro W hW hF
    have q5 : newInt w0 (2 + g) (t 5) W := hF.get 5 rfl (by kernel_rfl) (by kernel_rfl)
    refine gen_pushI rfl (hW.2.2.1 rfl) q5.ints ?_ ?_ (by simp only [List.length_singleton]; omega) hW.1.size ?_
    · go_simp
    · go_simp
    intro v' w' h1 h2 h3
    refine ⟨h2, pushF.of hW.2.1 h1 h3, fun j Fj hj hG u hu hjk => ?_⟩
    have hj12 : j = 12 := by omega
    subst hj12
    obtain rfl := Option.some.inj hG
    exact (push_apart hT'.out.swap hu h3)
  dsimp only [Act.put, List.setIfInBounds_toArray, List.set_cons_zero, List.set_cons_succ, Nat.reduceAdd]
  repeat (apply RunG.det rfl rfl; (· (intro W hW hF; have qq0 := hW.1.cell hgc; have qq1 := hW.1.cell hpc; clear hW hF; unfold detRun; go_simp; exact ⟨gb_refl _ _, rfl⟩)); dsimp only [Act.put, List.setIfInBounds_toArray, List.set_cons_zero, List.set_cons_succ, Nat.reduceAdd])
  apply RunG.genY rfl rfl
  · intro W hW hF
    have hz1 := hW.2.1
    clear hW hF
    unfold genRun
    go_simp
    exact ⟨gb_alloc _ _, newInt.new _ _ _ hz1, fun _ _ _ _ _ _ h => by simp at h⟩
  dsimp only [Act.put, List.setIfInBounds_toArray, List.set_cons_zero, List.set_cons_succ, Nat.reduceAdd]
  apply RunG.genY rfl rfl
  · intro W hW hF
    have q11 : newInt w0 p (t 11) W := hF.get 11 rfl (by kernel_rfl) (by kernel_rfl)
    refine gen_pushI rfl (hW.2.2.2 rfl) q11.ints ?_ ?_ (by simp only [List.length_singleton]; omega) hW.1.size ?_
    · go_simp
    · go_simp
    intro v' w' h1 h2 h3
    refine ⟨h2, pushF.of hW.2.1 h1 h3, fun j Fj hj hG u hu hjk => ?_⟩
    have hj6 : j = 6 := by omega
    subst hj6
    obtain rfl := Option.some.inj hG
    exact (push_apart hT'.out hu h3)
  dsimp only [Act.put, List.setIfInBounds_toArray, List.set_cons_zero, List.set_cons_succ, Nat.reduceAdd]
  refine RunG.done ?_
  intro W hW hF hY
  have q6 : pushF w4 w0 f (m1 ++ [2 + g]) (t 6) W := hF 6 (by decide) _ rfl
  have q12 : pushF w4 w0 s (m2 ++ [p]) (t 12) W := hF 12 (by decide) _ rfl
  have hfin := Lib.hid (hQ W (t 6) (t 12))
  have hT2 : Hid (Two w4 W (t 6) (t 12) (m1 ++ [2 + g]) (m2 ++ [p])) := Lib.hid ⟨q6.1, q12.1, hY 6 12 (by decide) (by decide) (by decide) (.inl ⟨rfl, rfl⟩), hW.1⟩
  clear hF hY hW q6 q12 hQ
  go_wp2_with fail
  exact hfin.out _ _ _ _ _ _ _ _ _ _ _ _ _ hT2.out
end Go.Proofs.YtfnkciboencifaaDoor.Elder
