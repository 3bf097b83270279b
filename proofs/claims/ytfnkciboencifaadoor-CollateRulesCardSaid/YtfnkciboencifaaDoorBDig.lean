/-
  Walks: digit, twice; and the appends of a slice of ints that is the call's own.
-/
import Derived.Test.YtfnkciboencifaaDoorBKeyP
set_option linter.all false
namespace Go.Proofs.YtfnkciboencifaaDoor.Elder
open Go.RowKit
set_option maxRecDepth 100000 in
theorem digit_any (c : UInt8) (w : World) : Calls Tryd.prog 68 #[.int .u8 (c.toNat : Nat)] w fun e w' => e = .returned (.bool (isDig c)) ∧ w' = w := by
  have h8 := UInt8.toNat_lt c
  by_cases h1 : 48 ≤ (c.toNat : Int)
  · by_cases h2 : (c.toNat : Int) ≤ 57
    · have hd : isDig c = true := isDig_iff.2 ⟨h1, h2⟩
      rw [hd]
      clear hd
      go_enter Tryd.func68, Tryd.ntmps68
      go_wp2_with fail
      go_ret
      simp
    · have hd : isDig c = false := by rw [Bool.eq_false_iff]; exact fun h => h2 (isDig_iff.1 h).2
      rw [hd]
      clear hd
      go_enter Tryd.func68, Tryd.ntmps68
      go_wp2_with fail
      go_ret
      simp
  · have hd : isDig c = false := by rw [Bool.eq_false_iff]; exact fun h => h1 (isDig_iff.1 h).1
    rw [hd]
    clear hd
    go_enter Tryd.func68, Tryd.ntmps68
    go_wp2_with fail
    go_ret
    simp
theorem IntsAt.one {w : World} {b c : Nat} {x : Int} (h1 : 1 ≤ c) (hc : c ≤ maxLen) (h : w.cell? ⟨b, 0, none⟩ = some (.int .i64 x)) : IntsAt w (.slice (some ⟨b, 0, none⟩) 1 c) [x] :=
  ⟨_, _, rfl, h1, hc, by rintro ⟨⟩, by
    rintro a ⟨⟩
    refine ⟨rfl, fun i hi => ?_⟩
    have : i = 0 := by simp at hi; omega
    subst this
    exact h⟩
theorem IntsAt.new1 (w : World) (e : TypeId) (x : Int) : IntsAt (w.alloc (.cells #[.int .i64 x] e)) (.slice (some ⟨w.heap.size, 0, none⟩) 1 1) [x] :=
  .one (Nat.le_refl _) (by decide) (by simp only [World.cell?, heap_alloc_new]; rfl)
theorem IntsAt.new2 (w : World) (e : TypeId) (x y : Int) : IntsAt (w.alloc (.cells #[.int .i64 x, .int .i64 y] e)) (.slice (some ⟨w.heap.size, 0, none⟩) 2 2) [x, y] :=
  ⟨_, _, rfl, Nat.le_refl _, by decide, by rintro ⟨⟩, by
    rintro a ⟨⟩
    refine ⟨rfl, fun i hi => ?_⟩
    simp only [World.cell?, heap_alloc_new]
    match i, hi with
    | 0, _ => rfl
    | 1, _ => rfl⟩
theorem wpList_pushI {w : World} {ops : Array Oper} {rest : List Oper} {o : Oper} {a : Act} {Q : Exit → Act → World → Prop} (hgd : o.guard = none) {s x : Operand}
    (ho : o.op = .call { callee := .builtin .append, args := #[s, x], argTypes := #[22, 22] })
    {base : Nat} {v : Value} {l : List Int} (hown : OwnI w base v l) {u : Value} {m : List Int} (hu : IntsAt w u m) (hs : a.eval s = v) (hx : a.eval x = u)
    (hlen : l.length + m.length ≤ 1000000000) (hbase : base ≤ w.heap.size)
    (h : ∀ v' w', OwnI w' base v' (l ++ m) → w.grownBy w' v.ownBlock → Near w v v' → wpList Tryd.prog ops Q rest (a.put o.dst v') w') : wpList Tryd.prog ops Q (o :: rest) a w :=
  wpList_app hgd s x 22 ho base 3 (.int .i64 0) 8 Tryd.underlying22 infoInt rfl v l.length (ints l) hs hown u m.length _ hx hu (fun _ => rfl) (by omega) (by unfold maxLen; omega) hbase
    (fun v' w' h1 h2 h3 => h v' w' (by
      rw [ints_range, ints_append] at h1
      unfold OwnI
      rw [List.length_append]
      exact h1) h2 h3)
theorem gen_pushI {R : World → World → Prop} {w : World} {o : Oper} {a : Act} {F : Value → World → Prop} {s x : Operand}
    (ho : o.op = .call { callee := .builtin .append, args := #[s, x], argTypes := #[22, 22] })
    {base : Nat} {v : Value} {l : List Int} (hown : OwnI w base v l) {u : Value} {m : List Int} (hu : IntsAt w u m) (hs : a.eval s = v) (hx : a.eval x = u)
    (hlen : l.length + m.length ≤ 1000000000) (hbase : base ≤ w.heap.size)
    (h : ∀ v' w', OwnI w' base v' (l ++ m) → w.grownBy w' v.ownBlock → Near w v v' → R w w' ∧ F v' w') : genRun Tryd.prog R o a w F :=
  gen_app s x 22 ho base 3 (.int .i64 0) 8 Tryd.underlying22 infoInt rfl v l.length (ints l) hs hown u m.length _ hx hu (fun _ => rfl) (by omega) (by unfold maxLen; omega) hbase
    (fun v' w' h1 h2 h3 => h v' w' (by
      rw [ints_range, ints_append] at h1
      unfold OwnI
      rw [List.length_append]
      exact h1) h2 h3)
structure Two (w3 w : World) (f s : Value) (l1 l2 : List Int) : Prop where
  fst : OwnI w w3.heap.size f l1
  snd : OwnI w w3.heap.size s l2
  apart : Apart f s
  ext : Ext w3 w
theorem Two.nil (w : World) : Two w w (.slice none 0 0) (.slice none 0 0) [] [] := ⟨OwnI.nil _ _, OwnI.nil _ _, fun g h => by simp [Value.ownBlock] at h, Ext.refl _⟩
theorem Two.le {w3 w : World} {f s : Value} {l1 l2 : List Int} (h : Two w3 w f s l1 l2) : w3.heap.size ≤ w.heap.size := h.ext.size
theorem Two.mono {w3 w w' : World} {f s : Value} {l1 l2 : List Int} (h : Two w3 w f s l1 l2) (hE : Ext w w') : Two w3 w' f s l1 l2 := ⟨h.fst.ext hE, h.snd.ext hE, h.apart, h.ext.trans hE⟩
theorem Two.push1 {w3 w w' : World} {f s f' : Value} {l1 l2 m : List Int} (h : Two w3 w f s l1 l2) (ho : OwnI w' w3.heap.size f' m) (hg : w.grownBy w' f.ownBlock) (hn : Near w f f') : Two w3 w' f' s m l2 :=
  ⟨ho, h.snd.kept hg h.apart.or, h.apart.near hn (fun g hg => (h.snd.lt g hg).2), h.ext.own hg (fun g hg => (h.fst.lt g hg).1)⟩
theorem Two.push2 {w3 w w' : World} {f s s' : Value} {l1 l2 m : List Int} (h : Two w3 w f s l1 l2) (ho : OwnI w' w3.heap.size s' m) (hg : w.grownBy w' s.ownBlock) (hn : Near w s s') : Two w3 w' f s' l1 m :=
  ⟨h.fst.kept hg h.apart.symm.or, ho, (h.apart.symm.near hn (fun g hg => (h.fst.lt g hg).2)).symm, h.ext.own hg (fun g hg => (h.snd.lt g hg).1)⟩
end Go.Proofs.YtfnkciboencifaaDoor.Elder
