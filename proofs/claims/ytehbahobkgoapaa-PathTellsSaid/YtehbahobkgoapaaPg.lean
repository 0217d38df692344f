/- Contracts of the reference's Common, Compare, Under, and of law04.same (layer 4). -/
import Derived.Test.YtehbahobkgoapaaPf
import Derived.Test.YtehbahobkgoapaaCx
namespace Go.Proofs.Ytehbahobkgoapaa
open Go Go.RowKit
set_option linter.unusedSimpArgs false
set_option linter.unusedVariables false

set_option maxRecDepth 100000 in
set_option maxHeartbeats 1000000 in
theorem rcommon_any (p q : List UInt8) (w : World) (hp : p.length = 32) (hq : q.length = 32) :
    Calls Try.prog 73 #[arr8 p, arr8 q] w fun e w' => e = .returned (.int .i64 (comm p q : Nat)) ∧ Below w.heap.size w w' := by
  have HP := Lib.hid hp
  have HQ := Lib.hid hq
  clear hp hq
  have h2 := Two.mk' w 22 p q
  unfold arr8
  go_enter Try.func73, Try.ntmps73
  go_wp2_with fail
  generalize hW : (w.alloc (.cells (bvs p).toArray 22)).alloc (.cells (bvs q).toArray 22) = w0 at *
  clear hW
  have hlp := h2.p.lt
  have hlq := h2.q.lt
  go_loopw [5] (fun i wr => ∃ d : Nat, d ≤ 256 ∧ i = .int .i64 (d : Int) ∧ Hid (∀ e, e < d → tb p e = tb q e) ∧ Below w0.heap.size w0 wr) (fun i _ => 256 - (intOf i).toNat)
  case atStart => exact ⟨0, by omega, by go_num, fun e he => by omega, Below.refl _ _⟩
  case round =>
    obtain ⟨d, hd, rfl, hl, hw⟩ := hrel
    have hb := h2.b.trans (hw.mono h2.b.size)
    by_cases hlt : d < 256
    · have C1 := Lib.hid (fun W => rbit_any p d W HP.out (by omega))
      have C2 := Lib.hid (fun W => rbit_any q d W HQ.out (by omega))
      rw [bitZ_eq p d hlt] at C1
      rw [bitZ_eq q d hlt] at C2
      have hyes : Hid (tb p d = tb q d → ∀ e, e < d + 1 → tb p e = tb q e) := fun h e he => by
        by_cases hed : e = d
        · rw [hed, h]
        · exact hl.out e (by omega)
      have hno : Hid (tb p d ≠ tb q d → comm p q = d) := fun h => comm_of p q d (by omega) hl.out (fun _ => h)
      generalize tb p d = a at *
      generalize tb q d = b at *
      unfold arr8 at *
      have hdl : (d : Int) < 256 := by omega
      obtain ⟨wq, rfl⟩ : ∃ wq : World, wq = wr := ⟨_, rfl⟩
      go_upto_region 2 with fail
      refine rg_begin (Below wq.heap.size wq) [] [5, 8] [0, 1, 2, 3, 4, 6, 7, 5, 8, 9, 10] 0 mixed (by kernel_rfl) (fun _ _ _ _ e hh => ⟨e.symm.trans hh.1, hh.2⟩) ?_
      simp only [pick, List.map_cons, List.map_nil, List.getD_cons_zero, List.getD_cons_succ]
      have hS : (Below wq.heap.size wq) _ := (Below.refl _ _).drew
      refine rg_take (v := ?v1_0) rfl rfl hS ?y1_0 ?_
      case y1_0 => intro W hW; (try subst hW); go_simp; try with_reducible rfl
      simp only [Act.put, List.setIfInBounds_toArray, List.set_cons_zero, List.set_cons_succ]
      refine rg_take (v := ?v1_1) rfl rfl hS ?y1_1 ?_
      case y1_1 => intro W hW; (try subst hW); go_simp; try with_reducible rfl
      simp only [Act.put, List.setIfInBounds_toArray, List.set_cons_zero, List.set_cons_succ]
      refine rg_take (v := ?v1_2) rfl rfl hS ?y1_2 ?_
      case y1_2 => intro W hW; (try subst hW); go_simp; try with_reducible rfl
      simp only [Act.put, List.setIfInBounds_toArray, List.set_cons_zero, List.set_cons_succ]
      refine rg_take rfl rfl hS (fun W hW => exec_load_agg at22' (.tmp 2) rfl w.heap.size 22 (bvs p) rfl ((h2.p.below hw hlp).below hW (h2.p.below hw hlp).lt) (by rw [bvs_length]; exact HP.out)) ?_
      simp only [Act.put, List.setIfInBounds_toArray, List.set_cons_zero, List.set_cons_succ]
      refine rg_take (v := ?v1_4) rfl rfl hS ?y1_4 ?_
      case y1_4 => intro W hW; (try subst hW); go_simp; try with_reducible rfl
      simp only [Act.put, List.setIfInBounds_toArray, List.set_cons_zero, List.set_cons_succ]
      refine rg_take rfl rfl hS (fun W hW => exec_load_agg at22' (.tmp 3) rfl (w.heap.size + 1) 22 (bvs q) rfl ((h2.q.below hw hlq).below hW (h2.q.below hw hlq).lt) (by rw [bvs_length]; exact HQ.out)) ?_
      simp only [Act.put, List.setIfInBounds_toArray, List.set_cons_zero, List.set_cons_succ]
      refine rg_take (v := ?v1_7) rfl rfl hS ?y1_7 ?_
      case y1_7 => intro W hW; (try subst hW); go_simp; try with_reducible rfl
      simp only [Act.put, List.setIfInBounds_toArray, List.set_cons_zero, List.set_cons_succ]
      refine rg_one rfl rfl ?_; intro K hK; go_simp
      refine (C1.out _).mono ?_
      rintro e w1 ⟨rfl, hw1⟩
      have hS1 := hS.trans (hw1.mono hS.size)
      refine hK _ _ (fun _ => hS1) ?_; clear hK
      refine rg_one rfl rfl ?_; intro K hK; go_simp
      refine (C2.out _).mono ?_
      rintro e w2 ⟨rfl, hw2⟩
      have hS2 := hS1.trans (hw2.mono hS1.size)
      refine hK _ _ (fun _ => hS2) ?_; clear hK
      refine rg_take (v := ?v1_9) rfl rfl hS2 ?y1_9 ?_
      case y1_9 => intro W hW; (try subst hW); go_simp; try with_reducible rfl
      simp only [Act.put, List.setIfInBounds_toArray, List.set_cons_zero, List.set_cons_succ]
      refine rg_take (v := ?v1_10) rfl rfl hS2 ?y1_10 ?_
      case y1_10 => intro W hW; (try subst hW); go_simp; try with_reducible rfl
      simp only [Act.put, List.setIfInBounds_toArray, List.set_cons_zero, List.set_cons_succ]
      refine rg_done (by kernel_rfl) ?_
      by_cases hab : a = b
      · have hn := Lib.hid (hyes.out hab)
        subst hab
        go_wp2_with fail
        go_roundw
        case rel => exact ⟨d + 1, by omega, by go_num, hn, hw.trans (hS2.mono hw.size)⟩
        case measure => simp only [intOf]; omega
      · have hc := Lib.hid (hno.out hab)
        have hbf : ((a.toNat : Int) == (b.toNat : Int)) = false := by
          cases a <;> cases b <;> first | (exfalso; exact hab rfl) | rfl
        go_wp2_with fail
        go_ret
        exact ⟨ret_i (by rw [hc.out]), h2.b.trans ((hw.trans (hS2.mono hw.size)).mono h2.b.size)⟩
    · obtain rfl : d = 256 := by omega
      have hc : Hid (comm p q = 256) := comm_of p q 256 (by omega) hl.out (fun h => by omega)
      obtain ⟨wq, rfl⟩ : ∃ wq : World, wq = wr := ⟨_, rfl⟩
      go_upto_region 2 with fail
      refine rg_begin (Below wq.heap.size wq) [] [5, 8] [0, 1, 2, 3, 4, 6, 7, 5, 8, 9, 10] 0 mixed (by kernel_rfl) (fun _ _ _ _ e hh => ⟨e.symm.trans hh.1, hh.2⟩) ?_
      simp only [pick, List.map_cons, List.map_nil, List.getD_cons_zero, List.getD_cons_succ]
      have hS : (Below wq.heap.size wq) _ := (Below.refl _ _).drew
      refine rg_take (v := ?v2_0) rfl rfl hS ?y2_0 ?_
      case y2_0 => intro W hW; (try subst hW); go_simp; try with_reducible rfl
      simp only [Act.put, List.setIfInBounds_toArray, List.set_cons_zero, List.set_cons_succ]
      refine rg_take (v := ?v2_1) rfl rfl hS ?y2_1 ?_
      case y2_1 => intro W hW; (try subst hW); go_simp; try with_reducible rfl
      simp only [Act.put, List.setIfInBounds_toArray, List.set_cons_zero, List.set_cons_succ]
      refine rg_take (v := ?v2_2) rfl rfl hS ?y2_2 ?_
      case y2_2 => intro W hW; (try subst hW); go_simp; try with_reducible rfl
      simp only [Act.put, List.setIfInBounds_toArray, List.set_cons_zero, List.set_cons_succ]
      refine rg_skip rfl rfl hS ?_
      simp only [Act.put, List.setIfInBounds_toArray, List.set_cons_zero, List.set_cons_succ]
      refine rg_skip rfl rfl hS ?_
      simp only [Act.put, List.setIfInBounds_toArray, List.set_cons_zero, List.set_cons_succ]
      refine rg_skip rfl rfl hS ?_
      simp only [Act.put, List.setIfInBounds_toArray, List.set_cons_zero, List.set_cons_succ]
      refine rg_skip rfl rfl hS ?_
      simp only [Act.put, List.setIfInBounds_toArray, List.set_cons_zero, List.set_cons_succ]
      refine rg_pass rfl rfl hS ?_
      simp only [Act.put, List.setIfInBounds_toArray, List.set_cons_zero, List.set_cons_succ]
      refine rg_pass rfl rfl hS ?_
      simp only [Act.put, List.setIfInBounds_toArray, List.set_cons_zero, List.set_cons_succ]
      refine rg_skip rfl rfl hS ?_
      simp only [Act.put, List.setIfInBounds_toArray, List.set_cons_zero, List.set_cons_succ]
      refine rg_take (v := ?v2_10) rfl rfl hS ?y2_10 ?_
      case y2_10 => intro W hW; (try subst hW); go_simp; try with_reducible rfl
      simp only [Act.put, List.setIfInBounds_toArray, List.set_cons_zero, List.set_cons_succ]
      refine rg_done (by kernel_rfl) ?_
      go_wp2_with fail
      go_ret
      exact ⟨ret_i (by rw [hc.out]), h2.b.trans ((hw.trans (hS.mono hw.size)).mono h2.b.size)⟩

set_option maxRecDepth 100000 in
set_option maxHeartbeats 1000000 in
theorem rkcompare_any (p q : List UInt8) (w : World) (hp : p.length = 32) (hq : q.length = 32) :
    Calls Try.prog 74 #[arr8 p, arr8 q] w fun e w' => e = .returned (.int .i64 (cmpZ (nOf p) (nOf q))) ∧ Below w.heap.size w w' := by
  rw [← compare_nOf p q (by omega)]
  have HP := Lib.hid hp
  have HQ := Lib.hid hq
  clear hp hq
  have h2 := Two.mk' w 22 p q
  unfold arr8
  go_enter Try.func74, Try.ntmps74
  go_wp2_with fail
  generalize hW : (w.alloc (.cells (bvs p).toArray 22)).alloc (.cells (bvs q).toArray 22) = w0 at *
  clear hW
  have hlp := h2.p.lt
  have hlq := h2.q.lt
  go_loopw [5] (fun i wr => ∃ j : Nat, j ≤ 32 ∧ i = .int .i64 (j : Int) ∧ Hid (Lib.compareBytes p q = Lib.compareBytes (p.drop j) (q.drop j)) ∧ Below w0.heap.size w0 wr) (fun i _ => 32 - (intOf i).toNat)
  case atStart => exact ⟨0, by omega, by go_num, by show _ = _; simp, Below.refl _ _⟩
  case round =>
    obtain ⟨j, hj, rfl, hc, hw⟩ := hrel
    obtain ⟨wq, rfl⟩ : ∃ wq : World, wq = wr := ⟨_, rfl⟩
    by_cases hlt : j < 32
    · have hjp : j < p.length := by rw [HP.out]; exact hlt
      have hjq : j < q.length := by rw [HQ.out]; exact hlt
      have hc1 : wq.cell? ⟨w.heap.size, j, none⟩ = some (.int .u8 ((p[j]).toNat : Int)) := by rw [(h2.p.below hw hlp).cell, bvs_get, List.getElem?_eq_getElem hjp]; rfl
      have hc2 : wq.cell? ⟨w.heap.size + 1, j, none⟩ = some (.int .u8 ((q[j]).toNat : Int)) := by rw [(h2.q.below hw hlq).cell, bvs_get, List.getElem?_eq_getElem hjq]; rfl
      have hst := Lib.hid (cmp_step p q j hjp hjq)
      generalize (p[j]).toNat = x at *
      generalize (q[j]).toNat = y at *
      have hj32 : (j : Int) < 32 := by omega
      go_upto_region 4 with fail
      refine rg_begin (Below wq.heap.size wq) [] [] [0, 1, 2, 3, 4, 5, 6] 0 mixed (by kernel_rfl) (fun _ _ _ _ e hh => ⟨e.symm.trans hh.1, hh.2⟩) ?_
      simp only [pick, List.map_cons, List.map_nil, List.getD_cons_zero, List.getD_cons_succ]
      have hS : (Below wq.heap.size wq) _ := (Below.refl _ _).drew
      refine rg_take (v := ?v3_0) rfl rfl hS ?y3_0 ?_
      case y3_0 => intro W hW; (try subst hW); go_simp; try with_reducible rfl
      simp only [Act.put, List.setIfInBounds_toArray, List.set_cons_zero, List.set_cons_succ]
      refine rg_take (v := ?v3_1) rfl rfl hS ?y3_1 ?_
      case y3_1 => intro W hW; (try subst hW); go_simp; try with_reducible rfl
      simp only [Act.put, List.setIfInBounds_toArray, List.set_cons_zero, List.set_cons_succ]
      refine rg_take (v := ?v3_2) rfl rfl hS ?y3_2 ?_
      case y3_2 => intro W hW; have hcw := (Below.cell hW (World.block_lt_of_cell? _ _ hc1)).trans hc1; go_simp; try with_reducible rfl
      simp only [Act.put, List.setIfInBounds_toArray, List.set_cons_zero, List.set_cons_succ]
      refine rg_take (v := ?v3_3) rfl rfl hS ?y3_3 ?_
      case y3_3 => intro W hW; (try subst hW); go_simp; try with_reducible rfl
      simp only [Act.put, List.setIfInBounds_toArray, List.set_cons_zero, List.set_cons_succ]
      refine rg_take (v := ?v3_4) rfl rfl hS ?y3_4 ?_
      case y3_4 => intro W hW; (try subst hW); go_simp; try with_reducible rfl
      simp only [Act.put, List.setIfInBounds_toArray, List.set_cons_zero, List.set_cons_succ]
      refine rg_take (v := ?v3_5) rfl rfl hS ?y3_5 ?_
      case y3_5 => intro W hW; have hcw2 := (Below.cell hW (World.block_lt_of_cell? _ _ hc2)).trans hc2; go_simp; try with_reducible rfl
      simp only [Act.put, List.setIfInBounds_toArray, List.set_cons_zero, List.set_cons_succ]
      refine rg_take (v := ?v3_6) rfl rfl hS ?y3_6 ?_
      case y3_6 => intro W hW; (try subst hW); go_simp; try with_reducible rfl
      simp only [Act.put, List.setIfInBounds_toArray, List.set_cons_zero, List.set_cons_succ]
      refine rg_done (by kernel_rfl) ?_
      by_cases hxy : x < y
      · have e : Hid (Lib.compareBytes p q = -1) := by show _ = _; rw [hc.out, hst.out, if_pos hxy]
        go_wp2_with fail
        go_ret
        exact ⟨ret_i e.out.symm, h2.b.trans ((hw.trans (hS.mono hw.size)).mono h2.b.size)⟩
      · go_upto_region 6 with fail
        refine rg_begin (Below wq.heap.size wq) [] [] [0, 1, 2, 3, 4, 5, 6] 0 mixed (by kernel_rfl) (fun _ _ _ _ e hh => ⟨e.symm.trans hh.1, hh.2⟩) ?_
        simp only [pick, List.map_cons, List.map_nil, List.getD_cons_zero, List.getD_cons_succ]
        have hS6 : (Below wq.heap.size wq) _ := hS.drew
        refine rg_take (v := ?v4_0) rfl rfl hS6 ?y4_0 ?_
        case y4_0 => intro W hW; (try subst hW); go_simp; try with_reducible rfl
        simp only [Act.put, List.setIfInBounds_toArray, List.set_cons_zero, List.set_cons_succ]
        refine rg_take (v := ?v4_1) rfl rfl hS6 ?y4_1 ?_
        case y4_1 => intro W hW; (try subst hW); go_simp; try with_reducible rfl
        simp only [Act.put, List.setIfInBounds_toArray, List.set_cons_zero, List.set_cons_succ]
        refine rg_take (v := ?v4_2) rfl rfl hS6 ?y4_2 ?_
        case y4_2 => intro W hW; have hcw := (Below.cell hW (World.block_lt_of_cell? _ _ hc1)).trans hc1; go_simp; try with_reducible rfl
        simp only [Act.put, List.setIfInBounds_toArray, List.set_cons_zero, List.set_cons_succ]
        refine rg_take (v := ?v4_3) rfl rfl hS6 ?y4_3 ?_
        case y4_3 => intro W hW; (try subst hW); go_simp; try with_reducible rfl
        simp only [Act.put, List.setIfInBounds_toArray, List.set_cons_zero, List.set_cons_succ]
        refine rg_take (v := ?v4_4) rfl rfl hS6 ?y4_4 ?_
        case y4_4 => intro W hW; (try subst hW); go_simp; try with_reducible rfl
        simp only [Act.put, List.setIfInBounds_toArray, List.set_cons_zero, List.set_cons_succ]
        refine rg_take (v := ?v4_5) rfl rfl hS6 ?y4_5 ?_
        case y4_5 => intro W hW; have hcw2 := (Below.cell hW (World.block_lt_of_cell? _ _ hc2)).trans hc2; go_simp; try with_reducible rfl
        simp only [Act.put, List.setIfInBounds_toArray, List.set_cons_zero, List.set_cons_succ]
        refine rg_take (v := ?v4_6) rfl rfl hS6 ?y4_6 ?_
        case y4_6 => intro W hW; (try subst hW); go_simp; try with_reducible rfl
        simp only [Act.put, List.setIfInBounds_toArray, List.set_cons_zero, List.set_cons_succ]
        refine rg_done (by kernel_rfl) ?_
        by_cases hyx : y < x
        · have e : Hid (Lib.compareBytes p q = 1) := by show _ = _; rw [hc.out, hst.out, if_neg hxy, if_pos hyx]
          go_wp2_with fail
          go_ret
          exact ⟨ret_i e.out.symm, h2.b.trans ((hw.trans (hS6.mono hw.size)).mono h2.b.size)⟩
        · have e : Hid (Lib.compareBytes p q = Lib.compareBytes (p.drop (j + 1)) (q.drop (j + 1))) := by show _ = _; rw [hc.out, hst.out, if_neg hxy, if_neg hyx]
          go_wp2_with fail
          go_roundw
          case rel => exact ⟨j + 1, by omega, by go_num, e, hw.trans (hS6.mono hw.size)⟩
          case measure => simp only [intOf]; omega
    · obtain rfl : j = 32 := by omega
      have e : Hid (Lib.compareBytes p q = 0) := by
        show _ = _
        rw [hc.out, List.drop_eq_nil_of_le (by rw [HP.out]; exact Nat.le_refl _), List.drop_eq_nil_of_le (by rw [HQ.out]; exact Nat.le_refl _)]
        rfl
      go_wp2_with fail
      go_ret
      exact ⟨ret_i e.out.symm, h2.b.trans (hw.mono h2.b.size)⟩

set_option maxRecDepth 100000 in
theorem runder_any (p q : List UInt8) (d : Int) (w : World) (hp : p.length = 32) (hq : q.length = 32) (hd : -9223372036854775808 ≤ d ∧ d ≤ 9223372036854775807) :
    Calls Try.prog 75 #[arr8 p, arr8 q, .int .i64 d] w fun e w' => e = .returned (.bool (underB p q d)) ∧ Below w.heap.size w w' := by
  have HP := Lib.hid hp
  have HQ := Lib.hid hq
  clear hp hq
  have h2 := Two.mk' w 22 p q
  by_cases h0 : d < 0
  · have e1 : underB p q d = false := by unfold underB; simp; omega
    rw [e1]; clear e1
    unfold arr8
    go_enter Try.func75, Try.ntmps75
    go_wp2_with fail
    go_ret
    exact ⟨rfl, h2.b⟩
  · by_cases h1 : 256 < d
    · have e1 : underB p q d = false := by unfold underB; simp; omega
      rw [e1]; clear e1
      unfold arr8
      go_enter Try.func75, Try.ntmps75
      go_wp2_with fail
      go_ret
      exact ⟨rfl, h2.b⟩
    · have e1 : underB p q d = decide (d ≤ comm p q) := by unfold underB; congr 1; simp; omega
      rw [e1]; clear e1
      have h2d : d ≤ 256 := by omega
      unfold arr8
      go_enter Try.func75, Try.ntmps75
      go_wp2_with (first
        | ((with_reducible refine at_dst 14 ?_); refine wpList_yield_w (by simp [Region.wanted, yielded, Act.put, h2d]) _ (exec_load_agg at22' (.tmp 3) rfl _ 22 (bvs p) rfl h2.p (by rw [bvs_length]; exact HP.out)) ?_)
        | ((with_reducible refine at_dst 15 ?_); refine wpList_yield_w (by simp [Region.wanted, yielded, Act.put, h2d]) _ (exec_load_agg at22' (.tmp 4) rfl _ 22 (bvs q) rfl h2.q (by rw [bvs_length]; exact HQ.out)) ?_)
        | (go_at_call 73; refine (rcommon_any p q _ HP.out HQ.out).mono ?_; rintro e w1 ⟨rfl, hw1⟩))
      go_ret
      exact ⟨rfl, h2.b.trans (hw1.mono h2.b.size)⟩

set_option maxRecDepth 100000 in
theorem same_any (p : List UInt8) (e f : Int) (w : World) (hp : p.length = 32) (hef : e = f) :
    Calls Try.prog 71 #[arr8 p, .int .i64 e, arr8 p, .int .i64 f] w fun en w' => en = .returned (.bool true) ∧ Below w.heap.size w w' := by
  subst hef
  have HP := Lib.hid hp
  clear hp
  have hB : Below w.heap.size w ((w.alloc (.cells (bvs p).toArray 23)).alloc (.cells (bvs p).toArray 22)) := ((Below.refl _ _).alloc (Nat.le_refl _) _).alloc (by simp) _
  have hb1 : Blk ((w.alloc (.cells (bvs p).toArray 23)).alloc (.cells (bvs p).toArray 22)) w.heap.size 23 (bvs p) := (Blk.new _ _ _).alloc _
  have hb2 : Blk ((w.alloc (.cells (bvs p).toArray 23)).alloc (.cells (bvs p).toArray 22)) (w.heap.size + 1) 22 (bvs p) := by
    have := Blk.new (w.alloc (.cells (bvs p).toArray 23)) 22 (bvs p)
    simpa using this
  unfold arr8
  go_enter Try.func71, Try.ntmps71
  go_wp2_with (first
    | ((with_reducible refine at_dst 9 ?_); refine wpList_yield rfl _ (exec_load_agg at23' (.tmp 4) rfl _ 23 (bvs p) rfl hb1 (by rw [bvs_length]; exact HP.out)) ?_)
    | ((with_reducible refine at_dst 10 ?_); refine wpList_yield rfl _ (exec_load_agg at22' (.tmp 6) rfl _ 22 (bvs p) rfl hb2 (by rw [bvs_length]; exact HP.out)) ?_)
    | ((with_reducible refine at_dst 11 ?_); refine wpList_yield rfl _ (exec_eql_is (b := true) ab23 (.tmp 9) (.tmp 10) rfl p p rfl rfl HP.out HP.out (by simp)) ?_))
  go_ret
  exact ⟨rfl, hB⟩
end Go.Proofs.Ytehbahobkgoapaa
