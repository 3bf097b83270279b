/-
  Walk: (collate.Spec).key: the key of a text.
-/
import Derived.Test.YtfnkciboencifaaDoorBKeyQ
import Derived.Laws.Tables
set_option linter.all false
namespace Go.Proofs.YtfnkciboencifaaDoor.Elder
open Go.RowKit Go.Shelf
theorem store_arr {P : Program} {w : World} {g n : Nat} {f0 f : Nat → Value} {A : Array Value} (h : ArrAt w g n f0) (hA : A.size = n) (hA2 : ∀ i, i < n → A[i]? = some (f i)) (hf : ∀ i, (f i).oneCell' = true) :
    ∃ W', (storeCells ⟨g, 0, none⟩ A.toList).run P w = .ok () W' ∧ ArrAt W' g n f ∧ w.grownBy W' (some g) := by
  obtain ⟨cur, e, hb, hn, _⟩ := h
  have h1 : A.all (·.oneCell') = true := oneCell_int hA hA2 hf
  have hr := run_storeCells_from (P := P) g e A.toList 0 cur w hb (by simp; omega) (fun v hv => (Array.all_eq_true_iff_forall_mem.1 h1) v (by simpa using hv))
  refine ⟨_, hr, ?_, ⟨rfl, rfl, rfl, by simp, fun k _ hk => setRow_other w g k _ (fun e => hk (by simp [e]))⟩⟩
  refine ⟨_, e, setRow_heap w g cur _ e _ hb, ?_, fun i hi => ?_⟩
  · simp; omega
  · have : A.size ≤ 0 + A.size := by omega
    simp only [List.take_zero, List.nil_append]
    rw [← hA2 i hi]
theorem plGroup_mem {g : Nat} : ∀ {l : List UInt8} {i : Nat} {x : Trip}, x ∈ plGroup g l i → x.2.1 = g
  | [], _, _, h => by cases h
  | c :: l, i, x, h => by
    unfold plGroup at h
    rcases List.mem_cons.1 h with rfl | h
    · rfl
    · exact plGroup_mem h
theorem plFrom_mem : ∀ {l : List ByteArray} {g : Nat} {x : Trip}, x ∈ plFrom l g → x.2.1 < g + l.length
  | [], _, _, h => by cases h
  | s :: l, g, x, h => by
    unfold plFrom at h
    rcases List.mem_append.1 h with h | h
    · rw [plGroup_mem h]; simp
    · have := plFrom_mem h; simp only [List.length_cons]; omega
theorem grpT_range (l : List ByteArray) (i : Nat) : -1 ≤ grpT (plFrom l 0).reverse i ∧ grpT (plFrom l 0).reverse i ≤ l.length := by
  unfold grpT
  split
  · rename_i x hx
    have := plFrom_mem (List.mem_reverse.1 (List.mem_of_find?_eq_some hx))
    omega
  · omega
set_option maxHeartbeats 4000000 in
set_option maxRecDepth 100000 in
theorem key_any (v : Value) (d : SpecD) (s : ByteArray) (w : World) (h : SpecAt w v d) (ho : d.order.length ≤ 64) (hs : s.size ≤ 4096) :
    Calls Tryd.prog 46 #[v, .string s] w fun e w' => ∃ u, e = .returned u ∧ OwnI w' w.heap.size u (keyS d s) ∧ Ext w w' := by
  obtain ⟨h0, hE0⟩ := (⟨h, Ext.refl w⟩ : SpecAt w v d ∧ Ext w w)
  obtain ⟨vs, vo, rfl, hsk, hor⟩ := h
  obtain ⟨KW, hKW⟩ : ∃ KW, KW = keyS d s := ⟨_, rfl⟩
  rw [← hKW]
  have hKW' := Lib.hid hKW
  clear hKW hsk hor
  have hsp : ∀ W, Ext w W → SpecAt W (.agg #[.bool d.words, vs, .bool d.numbers, vo]) d := fun W hW => h0.ext hW
  have hcp : ∀ W, Ext w W → Hid (_) := fun W hW => Lib.hid (places_any _ d W (hsp W hW) ho)
  have hcc : ∀ W, Ext w W → Hid (_) := fun W hW => Lib.hid (counted_any _ d s W (hsp W hW) (by omega))
  clear h0
  go_enter Tryd.func46, Tryd.ntmps46
  go_wp2_with fail
  refine ((hcp _ (hE0.trans (Ext.alloc _ _))).out).mono ?_
  rintro e w1 ⟨A, B, rfl, hA, hB, hA2, hB2, hb⟩
  have k0 := hb.box (i := 0) rfl
  have k2 := hb.box (i := 2) rfl
  have k1 := hb.box (i := 1) rfl
  have k3 := hb.box (i := 3) rfl
  have hz := hb.room
  have hb0 := hb.of_alloc
  clear hb hcp
  have hE1 := Lib.hid hb0
  clear hb0 hE0
  obtain ⟨GA, hGA, hG1⟩ : ∃ GA, GA = (w1.alloc (Obj.cells Tryd.zeroCells104 104)).alloc (Obj.cells Tryd.zeroCells104 104) ∧ ArrAt GA w1.heap.size 256 (mOne 0) :=
    ⟨_, rfl, (ArrAt.new _ _ _ (mOne 0) 256 (by kernel_rfl) (fun i hi => by rw [zero256 i hi]; simp [mOne])).ext (Ext.alloc _ _)⟩
  have hG2 : ArrAt GA (w1.heap.size + 1) 256 (plcF []) := by
    rw [hGA, show w1.heap.size + 1 = (w1.alloc (Obj.cells Tryd.zeroCells104 104)).heap.size by simp]
    exact ArrAt.new _ _ _ (plcF []) 256 (by kernel_rfl) (fun i hi => by rw [zero256 i hi]; rfl)
  obtain ⟨W2, hst1, hA3, hg1⟩ := store_arr (P := Tryd.prog) hG1 hA hA2 (fun _ => rfl)
  obtain ⟨W3, hst2, hB3, hg2⟩ := store_arr (P := Tryd.prog) (hG2.block (hg1.block _ hG2.lt (by simp))) hB hB2 (fun _ => rfl)
  have hA4 := hA3.block (hg2.block _ hA3.lt (by simp))
  have hE3 : Ext w1 W3 := by
    have e1 : Ext w1 GA := by rw [hGA]; exact (Ext.alloc _ _).trans (Ext.alloc _ _)
    have e2 : Ext w1 W2 := Below.grown e1 hg1 e1.size (fun k hk => by cases hk; exact Nat.le_refl _)
    exact Below.grown e2 hg2 e2.size (fun k hk => by cases hk; omega)
  rw [hGA] at hst1
  have k0' := hE3.cell k0
  have k1' := hE3.cell k1
  have k3' := hE3.cell k3
  have k2' := hE3.cell k2
  have hz3 := Nat.lt_of_lt_of_le hz hE3.size
  have hE1' := Lib.hid (hE1.out.trans hE3)
  have hA5 := Lib.hid hA4
  have hB5 := Lib.hid hB3
  clear k0 k1 k2 k3 hz hG1 hG2 hg1 hg2 hA3 hA4 hB3 hA2 hB2 hE3 hE1 hGA GA
  go_wp2_with fail
  refine ((hcc _ hE1'.out).out).mono ?_
  rintro e w4 ⟨u, rfl, hu, hb⟩
  have j0 := hb.cell k0'
  have j2 := hb.cell k2'
  have hGA : Hid (ArrAt w4 w1.heap.size 256 (fun i => .int .i64 (grpT (plFrom d.order 0).reverse i))) := Lib.hid (hA5.out.ext hb)
  have hGB : Hid (ArrAt w4 (w1.heap.size + 1) 256 (fun i => .int .i64 (plcT (plFrom d.order 0).reverse i))) := Lib.hid (hB5.out.ext hb)
  have hE4 := Lib.hid (hE1'.out.trans hb)
  have hzb := Nat.lt_of_lt_of_le hz3 hb.size
  have hgr := grpT_range d.order
  unfold keyS at hKW'
  generalize grpT (plFrom d.order 0).reverse = g at *
  generalize plcT (plFrom d.order 0).reverse = p at *
  have hroom := key_room d g p s hs
  have hsz := Lib.hid (countS_size d s)
  unfold keyG at hKW'
  change StrsAt w4 u (countS d s) at hu
  generalize countS d s = ws at *
  obtain ⟨K1, hK1⟩ : ∃ K1, K1 = (keyWords d.words d.numbers g p false ws).1 := ⟨_, rfl⟩
  obtain ⟨K2, hK2⟩ : ∃ K2, K2 = (keyWords d.words d.numbers g p false ws).2 := ⟨_, rfl⟩
  rw [← hK1, ← hK2] at hKW' hroom
  have hK1' := Lib.hid hK1
  have hK2' := Lib.hid hK2
  obtain ⟨hr1, hr2⟩ := hroom
  obtain ⟨ua, uc, rfl, hul, huc, hum, hut⟩ := Elems.open hu.1
  have hut' := Lib.hid hut
  have hT0 := Lib.hid (Two.nil w4)
  clear hK1 hK2 hcc hsp hA5 hB5 k0' k1' k2' k3' hz3 hb hu hut hE1'
  go_wp2_with fail
  go_loopw [7, 8, 26] (fun f sc i wr => ∃ k l1 l2, k ≤ ws.length ∧ i = .int .i64 (k : Nat) ∧ Two w4 wr f sc l1 l2 ∧ K1 = l1 ++ (keyWords d.words d.numbers g p (decide (0 < k)) (ws.drop k)).1 ∧ K2 = l2 ++ (keyWords d.words d.numbers g p (decide (0 < k)) (ws.drop k)).2) (fun _ _ i _ => ws.length - (intOf i).toNat)
  case atStart => exact ⟨0, [], [], Nat.zero_le _, rfl, hT0.out, hK1'.out, hK2'.out⟩
  case round =>
    obtain ⟨k, l1, l2, hk, rfl, hT, e1, e2⟩ := hrel
    by_cases hlt : k < ws.length
    · obtain ⟨b, o, rfl, hc⟩ := hut'.out k hlt
      have hcr := hT.ext.cell hc
      rw [drop_ls hlt, keyWords] at e1 e2
      have hxs : (ls ws k).size ≤ 4096 := Nat.le_trans (hsz.out _ (by rw [← ls_get hlt]; exact List.getElem_mem hlt)) hs
      generalize ls ws k = x at *
      have q0 := hT.ext.cell j0
      have q2 := hT.ext.cell j2
      have hdk : decide (0 < k + 1) = true := by simp
      obtain ⟨R1, hR1⟩ : ∃ R, R = (keyWords d.words d.numbers g p true (ws.drop (k + 1))).1 := ⟨_, rfl⟩
      obtain ⟨R2, hR2⟩ : ∃ R, R = (keyWords d.words d.numbers g p true (ws.drop (k + 1))).2 := ⟨_, rfl⟩
      rw [← hR1] at e1
      rw [← hR2] at e2
      have hR1' := Lib.hid hR1
      have hR2' := Lib.hid hR2
      have hdk' := Lib.hid hdk
      have e1' := Lib.hid e1
      have e2' := Lib.hid e2
      have hT' := Lib.hid hT
      have hlen1 : l1.length + 1 ≤ 60000001 := by rw [e1] at hr1; simp only [List.length_append] at hr1; omega
      have hle := hT.le
      clear hR1 hR2 e1 e2 hc hT hdk
      go_upto_region 6 with (fail)
      go_cut [36] (fun c wx => c = .bool (decide (0 < k) && d.words) ∧ wx = wr)
      case first =>
        by_cases hk0 : 0 < k
        · have hk0' : (0 : Int) < (k : Int) := by omega
          go_wp2_with fail
          go_meet
          case rel => exact ⟨by simp [hk0], rfl⟩
        · have hk0' : decide ((0 : Int) < (k : Int)) = false := by simpa using hk0
          go_wp2_with fail
          go_meet
          case rel => exact ⟨by simp [hk0], rfl⟩
      case rest =>
        obtain ⟨rfl, hwc⟩ := hcut
        subst hwc
        generalize (decide (0 < k) && d.words) = B at *
        go_upto_if 36 with (fail)
        go_cut [7] (fun f' wx => ∃ l3, Two w4 wx f' u8 l3 l2 ∧ K1 = l3 ++ (partL d.numbers g p x.data.toList).1 ++ R1)
        case first =>
          cases B
          · go_wp2_with fail
            go_meet
            case rel => exact ⟨l1, hT'.out, by rw [e1'.out]; simp⟩
          · go_wp2_with (at_builtin; refine wpList_pushI rfl rfl (hT'.out.fst.ext (Ext.alloc _ _)) (IntsAt.new1 _ _ _) rfl rfl (by simp only [List.length_singleton]; omega) (by simp; omega) ?_)
            intro f' wn hf' hg' hn'
            have hT3 := Lib.hid ((hT'.out.mono (Ext.alloc _ _)).push1 hf' hg' hn')
            clear hf' hg' hn'
            go_wp2_with fail
            go_meet
            case rel => exact ⟨l1 ++ [0], hT3.out, by rw [e1'.out]; simp⟩
        case rest =>
          obtain ⟨l3, hT3, e3⟩ := hcut
          have hT3' := Lib.hid hT3
          have e3' := Lib.hid e3
          clear hT3 e3
          go_wp2_with fail
          go_loopw [7, 8, 11] (fun f sc i wi => ∃ j m1 m2, j ≤ x.size ∧ i = .int .i64 (j : Nat) ∧ Two w4 wi f sc m1 m2 ∧ K1 = m1 ++ (partL d.numbers g p (x.data.toList.drop j)).1 ++ R1 ∧ K2 = m2 ++ (partL d.numbers g p (x.data.toList.drop j)).2 ++ R2) (fun _ _ i _ => x.size - (intOf i).toNat)
          case atStart => exact ⟨0, l3, l2, Nat.zero_le _, rfl, hT3'.out, e3'.out, by rw [e2'.out]; simp⟩
          case round =>
            obtain ⟨j, m1, m2, hj, rfl, hTj, f1, f2⟩ := hrel
            have hlx : x.data.toList.length = x.size := by simp
            by_cases hjl : j < x.size
            · rw [drop_bt hjl] at f1 f2
              have hbl := bt_lt x j
              have hxj : x[j] = bt x j := bt_get hjl
              have hgc4 := hGA.out.cell (i := (bt x j).toNat) (by omega)
              have hpc4 := hGB.out.cell (i := (bt x j).toNat) (by omega)
              have hgc := hTj.ext.cell hgc4
              have hgr1 := hgr (bt x j).toNat
              obtain ⟨NB, hNB⟩ : ∃ NB, NB = d.numbers := ⟨_, rfl⟩
              have r2 : wr.cell? ⟨w.heap.size, 2, none⟩ = some (.bool NB) := by rw [hNB]; exact hTj.ext.cell j2
              rw [← hNB] at f1 f2
              obtain ⟨c, hc⟩ : ∃ c, c = bt x j := ⟨_, rfl⟩
              rw [← hc] at f1 f2 hbl hxj hgc hgc4 hpc4 hgr1
              have hle2 := hTj.le
              have hlen2 : m1.length + (partL NB g p (c :: x.data.toList.drop (j + 1))).1.length ≤ 60000000 := by rw [f1] at hr1; simp only [List.length_append] at hr1; omega
              have hlen3 : m2.length + (partL NB g p (c :: x.data.toList.drop (j + 1))).2.length ≤ 60000000 := by rw [f2] at hr2; simp only [List.length_append] at hr2; omega
              have f1' := Lib.hid f1
              have f2' := Lib.hid f2
              have hTj' := Lib.hid hTj
              have hNB' := Lib.hid hNB
              have hc' := Lib.hid hc
              clear f1 f2 hTj hNB hc
              go_upto_region 11 with (fail)
              go_cut [54] (fun e wx => e = .bool (!(NB && isDig c)) ∧ wx = wr)
              case first =>
                cases NB
                · go_wp2_with fail
                  go_meet
                  case rel => exact ⟨by simp, rfl⟩
                · go_wp2_with fail
                  refine (digit_any c _).mono ?_
                  rintro e w' ⟨rfl, rfl⟩
                  go_wp2_with fail
                  go_meet
                  case rel => exact ⟨by simp, rfl⟩
              case rest =>
                obtain ⟨rfl, hwc⟩ := hcut
                subst hwc
                by_cases hdg : (NB && isDig c) = true
                · have hdg' : (!(NB && isDig c)) = false := by rw [hdg]; rfl
                  rw [hdg']
                  obtain ⟨hn1, hcd⟩ : NB = true ∧ isDig c = true := by simpa using hdg
                  subst hn1
                  have hcj := hc'.out
                  subst hcj
                  have hrun := partL_run (grp := g) (plc := p) x hjl hcd
                  rw [hrun] at f1' f2' hlen2 hlen3
                  have hrp := runL_pos x hjl hcd
                  have hrl := runL_le x j
                  have hrd := Lib.hid (fun m (h : j + m < x.size) (hm : m ≤ (runL x j).length) => run_dig h hm)
                  have hnl := numB_le x j
                  have hns : numB x j = ⟨(Lib.trimLeftB (x.extract j (j + (runL x j).length)).data.toList 48).toArray⟩ := rfl
                  have hnd := Lib.hid (fun i (h : i < (numB x j).size) => numB_dig x j h)
                  generalize runL x j = run at *
                  generalize numB x j = n at *
                  have hns' := Lib.hid hns
                  have hdv := digV_length n
                  simp only [List.length_append, List.length_cons, List.length_nil, hdv] at hlen2 hlen3
                  have f3' := Lib.hid f1'
                  have f4' := Lib.hid f2'
                  clear hrun hns hdg hdg' f1' f2' hdv
                  go_wp2_with fail
                  go_loopw [13] (fun e wi => ∃ m, m ≤ run.length ∧ e = .int .i64 ((j + m : Nat) : Int) ∧ wi = wc) (fun e _ => x.size - (intOf e).toNat)
                  case atStart => exact ⟨0, Nat.zero_le _, by simp, rfl⟩
                  case round =>
                    obtain ⟨m, hm, rfl, hwi⟩ := hrel
                    subst hwi
                    have hrm := hrd.out m
                    go_upto_region 16 with (fail)
                    go_cut [84] (fun e wx => e = .bool (decide (m < run.length)) ∧ wx = wr)
                    case first =>
                      by_cases hjm : j + m < x.size
                      · have hxm : x[j + m] = bt x (j + m) := bt_get hjm
                        have hrm2 := Lib.hid (hrm hjm hm)
                        have hcg := Lib.hid (digit_any (bt x (j + m)))
                        clear hrm
                        go_wp2_with fail
                        refine (hcg.out _).mono ?_
                        rintro e w' ⟨rfl, rfl⟩
                        go_wp2_with fail
                        go_meet
                        case rel => exact ⟨by rw [Bool.eq_iff_iff.2 (hrm2.out.trans decide_eq_true_iff.symm)], rfl⟩
                      · have hjm' : decide (((j + m : Nat) : Int) < (x.size : Int)) = false := by simp; omega
                        have hjm2 : decide ((j : Int) + (m : Int) < (x.size : Int)) = false := by simp; omega
                        clear hrm
                        go_wp2_with fail
                        go_meet
                        case rel => exact ⟨by simp; omega, rfl⟩
                    case rest =>
                      obtain ⟨rfl, hwc⟩ := hcut
                      subst hwc
                      by_cases hmr : m < run.length
                      · have hmr' : decide (m < run.length) = true := by simpa using hmr
                        rw [hmr']
                        clear hrm
                        go_wp2_with fail
                        exact ⟨⟨m + 1, by omega, by simp; omega, trivial⟩, by simp [intOf]; omega⟩
                      · have hmr' : decide (m < run.length) = false := by simpa using hmr
                        rw [hmr']
                        clear hrm hmr'
                        obtain rfl : m = run.length := by omega
                        go_wp2_with fail
                        refine (Tryd.strings_TrimLeft_one (x.extract j (j + run.length)) 48 (by decide) _).mono ?_
                        rintro e w' ⟨rfl, rfl⟩
                        rw [← hns'.out]
                        go_wp2_with (at_builtin; refine wpList_pushI rfl rfl (hTj'.out.fst.ext (Ext.alloc _ _)) (IntsAt.new2 _ _ _ _) rfl rfl (by simp only [List.length_cons, List.length_nil]; omega) (by simp; omega) ?_)
                        intro f4 wn hf4 hg4 hn4
                        have hT4 := (hTj'.out.mono (Ext.alloc _ _)).push1 hf4 hg4 hn4
                        have hle4 := hT4.le
                        have hT4' := Lib.hid hT4
                        clear hf4 hg4 hn4 hT4
                        go_wp2_with (at_builtin; refine wpList_pushI rfl rfl (hT4'.out.snd.ext (Ext.alloc _ _)) (IntsAt.new1 _ _ _) rfl rfl (by simp only [List.length_cons, List.length_nil]; omega) (by simp; omega) ?_)
                        intro s5 wp hf5 hg5 hn5
                        have hT5 := (hT4'.out.mono (Ext.alloc _ _)).push2 hf5 hg5 hn5
                        have hle5 := hT5.le
                        obtain ⟨nc, W6, hcv, hE6, hz6, hb6⟩ := bytes_run wp n
                        have hT6' := Lib.hid (hT5.mono hE6)
                        have hap6 : ∀ gg, f4.ownBlock = some gg → gg ≠ wp.heap.size := fun gg hgg => by have := (hT5.fst.lt gg hgg).2; omega
                        have hb6' := Lib.hid hb6
                        have hap6' := Lib.hid hap6
                        clear hf5 hg5 hn5 hT5 hE6 hb6 hap6 hT4' hTj' r2 hgc hrd
                        go_wp2_with fail
                        go_loopw [7, 109] (fun f i wi => ∃ q : Nat, q ≤ n.size ∧ i = .int .i64 (q : Nat) ∧ Two w4 wi f s5 (m1 ++ [1, (n.size : Int)] ++ (digV n).take q) (m2 ++ [(j : Int) + run.length - j - n.size]) ∧ (∀ i, i < n.size → wi.cell? ⟨wp.heap.size, i, none⟩ = some (.int .u8 ((bt n i).toNat : Nat))) ∧ (∀ gg, f.ownBlock = some gg → gg ≠ wp.heap.size) ∧ wp.heap.size < wi.heap.size) (fun _ i _ => n.size - (intOf i).toNat)
                        case atStart => exact ⟨0, Nat.zero_le _, rfl, by simpa using hT6'.out, hb6'.out, hap6'.out, hz6⟩
                        case round =>
                          obtain ⟨q, hq, rfl, hTq, hbq, hapq, hzq⟩ := hrel
                          by_cases hqn : q < n.size
                          · have hcq := hbq q hqn
                            obtain ⟨hd1, hd2⟩ := hnd.out q hqn
                            have hleq := hTq.le
                            have htk := digV_take n hqn
                            have htl : (List.take q (digV n)).length = q := by rw [List.length_take, digV_length]; omega
                            have hTq' := Lib.hid hTq
                            have hbq' := Lib.hid hbq
                            have hapq' := Lib.hid hapq
                            have htk' := Lib.hid htk
                            clear hTq hbq hapq htk
                            go_wp2_with (at_builtin; refine wpList_pushI rfl rfl (hTq'.out.fst.ext (Ext.alloc _ _)) (IntsAt.new1 _ _ _) rfl rfl (by simp only [List.length_append, List.length_cons, List.length_nil, htl]; omega) (by simp; omega) ?_)
                            intro f7 wq hf7 hg7 hn7
                            have hT7 := Lib.hid ((hTq'.out.mono (Ext.alloc _ _)).push1 hf7 hg7 hn7)
                            have hb7 : Hid (∀ i, i < n.size → wq.cell? ⟨wp.heap.size, i, none⟩ = some (.int .u8 ((bt n i).toNat : Nat))) := Lib.hid fun i hi => by
                              rw [← (Ext.alloc _ _).cell (hbq'.out i hi)]
                              exact World.cell?_of_block (hg7.block _ (by simp; omega) (fun e => hapq'.out _ e.symm rfl))
                            have hap7 : Hid (∀ gg, f7.ownBlock = some gg → gg ≠ wp.heap.size) := Lib.hid fun gg hgg => by
                              rcases hn7 gg hgg with h | h
                              · exact hapq'.out gg h
                              · simp at h; omega
                            have hz7 : wp.heap.size < wq.heap.size := by have := hg7.size; simp at this; omega
                            clear hf7 hg7 hn7
                            go_wp2_with fail
                            exact ⟨⟨q + 1, by omega, by simp, by rw [htk'.out]; simpa using hT7.out, hb7.out, hap7.out, hz7⟩, by simp [intOf]; omega⟩
                          · obtain rfl : q = n.size := by omega
                            have hTq' := Lib.hid hTq
                            clear hbq hapq hTq
                            go_wp2_with fail
                            have htk : List.take n.size (digV n) = digV n := List.take_of_length_le (by rw [digV_length]; omega)
                            have hsub : (j : Int) + run.length - j - n.size = (run.length : Int) - n.size := by omega
                            exact ⟨⟨j + run.length, _, _, by omega, by simp, hTq'.out, by rw [f3'.out, htk, hNB'.out]; simp, by rw [f4'.out, hsub, hNB'.out]; simp⟩, by simp [intOf]; omega⟩
                · have hdg0 : (NB && isDig c) = false := by simpa using hdg
                  have hdg' : (!(NB && isDig c)) = true := by rw [hdg0]; rfl
                  rw [hdg']
                  by_cases hg0 : 0 ≤ g c.toNat
                  · have hps := partL_grp (num := NB) (plc := p) (l := x.data.toList.drop (j + 1)) hdg0 hg0
                    rw [hps] at f1' f2' hlen2 hlen3
                    simp only [List.length_cons] at hlen2 hlen3
                    clear hps
                    go_wp2_with fail
                    refine key13_wp w1.heap.size (w1.heap.size + 1) u7 u8 c (g c.toNat) (p c.toNat) m1 m2 w4 wc _ _ _ _ _ _ _ _ _ _ _ _ _ _ _ _ _ _ _ _ _ _ _ _ _ _ _ _ _ _ _ _ _ _ _ _ _ _ _ _ _ _ _ _ _ _ _ _ _ _ _ _ _ _ _ _ _ _ _ _ _ _ _ _ _ _ _ _ _ _ _ _ _ _ _ _ _ _ _ _ _ _ _ _ _ _ _ _ _ _ _ _ _ _ _ _ _ _ _ _ _ _ _ _ _ _ _ _ _ _ _ _ _ _ _ _ _ _ _ _ _ _ hgc4 hpc4 ⟨by omega, by omega⟩ hTj' hbl (by omega) (by omega) ?_
                    intro W f' s' v59 v60 v61 v62 v63 v64 v65 v66 v67 v68 v69 v70 v71 hT2
                    have hT2' := Lib.hid hT2
                    clear hT2
                    go_wp2_with fail
                    exact ⟨⟨j + 1, _, _, by omega, by simp, hT2'.out, by rw [f1'.out, hNB'.out]; simp, by rw [f2'.out, hNB'.out]; simp⟩, by simp [intOf]; omega⟩
                  · have hg0' : decide (g c.toNat ≥ (0:Int)) = false := by simpa using hg0
                    rw [partL_none hdg0 hg0] at f1' f2'
                    go_wp2_with fail
                    exact ⟨⟨j + 1, m1, m2, by omega, by simp, hTj'.out, by rw [hNB'.out] at f1'; exact f1'.out, by rw [hNB'.out] at f2'; exact f2'.out⟩, by simp [intOf]; omega⟩
            · obtain rfl : j = x.size := by omega
              have hd0 : List.drop x.size x.data.toList = [] := List.drop_eq_nil_of_le (by omega)
              rw [hd0, partL_nil] at f1 f2
              have f1' := Lib.hid f1
              have f2' := Lib.hid f2
              have hTj' := Lib.hid hTj
              clear f1 f2 hTj
              go_wp2_with fail
              refine ⟨⟨k + 1, m1, m2, by omega, by simp, hTj'.out, ?_, ?_⟩, by simp [intOf]; omega⟩
              · rw [hdk'.out, ← hR1'.out, f1'.out]; simp
              · rw [hdk'.out, ← hR2'.out, f2'.out]; simp
    · obtain rfl : k = ws.length := by omega
      have hd0 : List.drop ws.length ws = [] := List.drop_eq_nil_of_le (Nat.le_refl _)
      rw [hd0] at e1 e2
      simp only [keyWords, List.append_nil] at e1 e2
      subst e1
      subst e2
      have hT' := Lib.hid hT
      have hle := hT.le
      clear hT hd0
      go_wp2_with (at_builtin; refine wpList_pushI rfl rfl (hT'.out.fst.ext (Ext.alloc _ _)) (IntsAt.new1 _ _ _) rfl rfl (by simp only [List.length_singleton]; omega) (by simp; omega) ?_)
      intro f4 wn hf4 hg4 hn4
      have hT4 := (hT'.out.mono (Ext.alloc _ _)).push1 hf4 hg4 hn4
      have hle4 := hT4.le
      have hT4' := Lib.hid hT4
      clear hf4 hg4 hn4 hT4
      go_wp2_with (at_builtin; refine wpList_pushI rfl rfl hT4'.out.fst hT4'.out.snd.elems rfl rfl (by simp only [List.length_append, List.length_singleton]; omega) hle4 ?_)
      intro f5 wp hf5 hg5 hn5
      have hT5 := Lib.hid ((hT4'.out).push1 hf5 hg5 hn5)
      clear hf5 hg5 hn5
      go_wp2_with fail
      go_ret
      have hfin : OwnI wp w.heap.size f5 KW := by rw [hKW'.out]; simpa using hT5.out.fst.lower hE4.out.size
      exact ⟨_, rfl, hfin, hE4.out.trans hT5.out.ext⟩
end Go.Proofs.YtfnkciboencifaaDoor.Elder
