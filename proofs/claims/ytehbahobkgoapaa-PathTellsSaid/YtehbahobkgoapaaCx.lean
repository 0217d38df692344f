/- The contract of the reference's Compare. -/
import Derived.Test.YtehbahobkgoapaaUx
namespace Go.Proofs.Ytehbahobkgoapaa
open Go Go.RowKit
set_option linter.unusedSimpArgs false
set_option linter.unusedVariables false

theorem cmp_step (l k : List UInt8) (j : Nat) (h1 : j < l.length) (h2 : j < k.length) : Lib.compareBytes (l.drop j) (k.drop j) = if (l[j]).toNat < (k[j]).toNat then -1 else if (k[j]).toNat < (l[j]).toNat then 1 else Lib.compareBytes (l.drop (j + 1)) (k.drop (j + 1)) := by
  rw [List.drop_eq_getElem_cons h1, List.drop_eq_getElem_cons h2, Lib.compareBytes]
  rfl
theorem cmp_end (l k : List UInt8) (j : Nat) (h1 : j ≤ l.length) (h2 : j ≤ k.length) (h : ¬ (j < l.length ∧ j < k.length)) : Lib.compareBytes (l.drop j) (k.drop j) = if l.length < k.length then -1 else if k.length < l.length then 1 else 0 := by
  by_cases ha : j = l.length
  · have e1 : l.drop j = [] := List.drop_eq_nil_of_le (by omega)
    rw [e1]
    by_cases hb : j = k.length
    · have e2 : k.drop j = [] := List.drop_eq_nil_of_le (by omega)
      rw [e2, if_neg (by omega), if_neg (by omega)]
      rfl
    · rw [List.drop_eq_getElem_cons (show j < k.length by omega), if_pos (by omega)]
      rfl
  · have hb : j = k.length := by omega
    have e2 : k.drop j = [] := List.drop_eq_nil_of_le (by omega)
    rw [e2, List.drop_eq_getElem_cons (show j < l.length by omega), if_neg (by omega), if_pos (by omega)]
    rfl

set_option maxRecDepth 100000 in
set_option maxHeartbeats 1000000 in
theorem rcompare_any (A : Option Addr) (n c : Nat) (l : List UInt8) (B : Option Addr) (m d : Nat) (k : List UInt8) (w : World) (ha : Rd w A (bvs l)) (hl : l.length = n) (hb : Rd w B (bvs k)) (hk : k.length = m) (hn : n ≤ 9223372036854775806) (hm : m ≤ 9223372036854775806) :
   Calls Try.prog 63 #[.slice A n c, .slice B m d] w fun e w' => e = .returned (.int .i64 (Lib.compareBytes l k)) ∧ Below w.heap.size w w' := by
  have HL := Lib.hid hl; clear hl
  have HK := Lib.hid hk; clear hk
  go_enter Try.func63, Try.ntmps63
  go_wp2_with fail
  go_loopw [5] (fun i wr => ∃ j : Nat, j ≤ n ∧ j ≤ m ∧ i = .int .i64 (j : Int) ∧ Hid (Lib.compareBytes l k = Lib.compareBytes (l.drop j) (k.drop j)) ∧ Below w.heap.size w wr) (fun i _ => n - (intOf i).toNat)
  case atStart => exact ⟨0, by omega, by omega, by go_num, by show _ = _; simp, Below.refl _ _⟩
  case round =>
    obtain ⟨j, hj, hj2, rfl, hc, hw⟩ := hrel
    obtain ⟨wq, rfl⟩ : ∃ wq : World, wq = wr := ⟨_, rfl⟩
    by_cases hlt : j < n ∧ j < m
    · obtain ⟨h1, h2⟩ := hlt
      have h1l : j < l.length := by rw [HL.out]; exact h1
      have h2l : j < k.length := by rw [HK.out]; exact h2
      obtain ⟨ad, rfl, hcc⟩ := ha (by rw [bvs_length]; omega)
      obtain ⟨bd, rfl, hcd⟩ := hb (by rw [bvs_length]; omega)
      have hc1 : w.cell? (ad.add j) = some (.int .u8 ((l[j]).toNat : Int)) := hcc j _ (by rw [bvs_get, List.getElem?_eq_getElem h1l]; rfl)
      have hc2 : w.cell? (bd.add j) = some (.int .u8 ((k[j]).toNat : Int)) := hcd j _ (by rw [bvs_get, List.getElem?_eq_getElem h2l]; rfl)
      have hst := Lib.hid (cmp_step l k j h1l h2l)
      generalize (l[j]).toNat = x at *
      generalize (k[j]).toNat = y at *
      have hi1 : (j : Int) < (n : Int) := by omega
      have hi2 : (j : Int) < (m : Int) := by omega
      go_wp2_with fail
      refine rg_begin (Below w.heap.size w) [] [] [0, 1, 2, 3, 4, 5, 6, 7, 8] 0 mixed (by kernel_rfl) (fun _ _ _ _ e hh => ⟨e.symm.trans hh.1, hh.2⟩) ?_
      simp only [pick, List.map_cons, List.map_nil, List.getD_cons_zero, List.getD_cons_succ]
      have hS : (Below w.heap.size w) _ := hw.drew
      refine rg_take (v := ?v1_0) rfl rfl hS ?y1_0 ?_
      case y1_0 => intro W hW; (try subst hW); go_simp; try with_reducible rfl
      simp only [Act.put, List.setIfInBounds_toArray, List.set_cons_zero, List.set_cons_succ]
      refine rg_take (v := ?v1_1) rfl rfl hS ?y1_1 ?_
      case y1_1 => intro W hW; (try subst hW); go_simp; try with_reducible rfl
      simp only [Act.put, List.setIfInBounds_toArray, List.set_cons_zero, List.set_cons_succ]
      refine rg_take (v := ?v1_2) rfl rfl hS ?y1_2 ?_
      case y1_2 => intro W hW; (try subst hW); go_simp; try with_reducible rfl
      simp only [Act.put, List.setIfInBounds_toArray, List.set_cons_zero, List.set_cons_succ]
      refine rg_take (v := ?v1_3) rfl rfl hS ?y1_3 ?_
      case y1_3 => intro W hW; have hcw := (Below.cell hW (World.block_lt_of_cell? _ _ hc1)).trans hc1; go_simp; try with_reducible rfl
      simp only [Act.put, List.setIfInBounds_toArray, List.set_cons_zero, List.set_cons_succ]
      refine rg_take (v := ?v1_4) rfl rfl hS ?y1_4 ?_
      case y1_4 => intro W hW; (try subst hW); go_simp; try with_reducible rfl
      simp only [Act.put, List.setIfInBounds_toArray, List.set_cons_zero, List.set_cons_succ]
      refine rg_take (v := ?v1_5) rfl rfl hS ?y1_5 ?_
      case y1_5 => intro W hW; (try subst hW); go_simp; try with_reducible rfl
      simp only [Act.put, List.setIfInBounds_toArray, List.set_cons_zero, List.set_cons_succ]
      refine rg_take (v := ?v1_6) rfl rfl hS ?y1_6 ?_
      case y1_6 => intro W hW; (try subst hW); go_simp; try with_reducible rfl
      simp only [Act.put, List.setIfInBounds_toArray, List.set_cons_zero, List.set_cons_succ]
      refine rg_take (v := ?v1_7) rfl rfl hS ?y1_7 ?_
      case y1_7 => intro W hW; have hcw2 := (Below.cell hW (World.block_lt_of_cell? _ _ hc2)).trans hc2; go_simp; try with_reducible rfl
      simp only [Act.put, List.setIfInBounds_toArray, List.set_cons_zero, List.set_cons_succ]
      refine rg_take (v := ?v1_8) rfl rfl hS ?y1_8 ?_
      case y1_8 => intro W hW; (try subst hW); go_simp; try with_reducible rfl
      simp only [Act.put, List.setIfInBounds_toArray, List.set_cons_zero, List.set_cons_succ]
      refine rg_done (by kernel_rfl) ?_
      by_cases hxy : x < y
      · have e : Hid (Lib.compareBytes l k = -1) := by show _ = _; rw [hc.out, hst.out, if_pos hxy]
        go_wp2_with fail
        go_ret
        exact ⟨ret_i e.out.symm, hS⟩
      · go_wp2_with fail
        refine rg_begin (Below w.heap.size w) [] [] [0, 1, 2, 3, 4, 5, 6, 7, 8] 0 mixed (by kernel_rfl) (fun _ _ _ _ e hh => ⟨e.symm.trans hh.1, hh.2⟩) ?_
        simp only [pick, List.map_cons, List.map_nil, List.getD_cons_zero, List.getD_cons_succ]
        have hS6 : (Below w.heap.size w) _ := hS.drew
        refine rg_take (v := ?v2_0) rfl rfl hS6 ?y2_0 ?_
        case y2_0 => intro W hW; (try subst hW); go_simp; try with_reducible rfl
        simp only [Act.put, List.setIfInBounds_toArray, List.set_cons_zero, List.set_cons_succ]
        refine rg_take (v := ?v2_1) rfl rfl hS6 ?y2_1 ?_
        case y2_1 => intro W hW; (try subst hW); go_simp; try with_reducible rfl
        simp only [Act.put, List.setIfInBounds_toArray, List.set_cons_zero, List.set_cons_succ]
        refine rg_take (v := ?v2_2) rfl rfl hS6 ?y2_2 ?_
        case y2_2 => intro W hW; (try subst hW); go_simp; try with_reducible rfl
        simp only [Act.put, List.setIfInBounds_toArray, List.set_cons_zero, List.set_cons_succ]
        refine rg_take (v := ?v2_3) rfl rfl hS6 ?y2_3 ?_
        case y2_3 => intro W hW; have hcw := (Below.cell hW (World.block_lt_of_cell? _ _ hc1)).trans hc1; go_simp; try with_reducible rfl
        simp only [Act.put, List.setIfInBounds_toArray, List.set_cons_zero, List.set_cons_succ]
        refine rg_take (v := ?v2_4) rfl rfl hS6 ?y2_4 ?_
        case y2_4 => intro W hW; (try subst hW); go_simp; try with_reducible rfl
        simp only [Act.put, List.setIfInBounds_toArray, List.set_cons_zero, List.set_cons_succ]
        refine rg_take (v := ?v2_5) rfl rfl hS6 ?y2_5 ?_
        case y2_5 => intro W hW; (try subst hW); go_simp; try with_reducible rfl
        simp only [Act.put, List.setIfInBounds_toArray, List.set_cons_zero, List.set_cons_succ]
        refine rg_take (v := ?v2_6) rfl rfl hS6 ?y2_6 ?_
        case y2_6 => intro W hW; (try subst hW); go_simp; try with_reducible rfl
        simp only [Act.put, List.setIfInBounds_toArray, List.set_cons_zero, List.set_cons_succ]
        refine rg_take (v := ?v2_7) rfl rfl hS6 ?y2_7 ?_
        case y2_7 => intro W hW; have hcw2 := (Below.cell hW (World.block_lt_of_cell? _ _ hc2)).trans hc2; go_simp; try with_reducible rfl
        simp only [Act.put, List.setIfInBounds_toArray, List.set_cons_zero, List.set_cons_succ]
        refine rg_take (v := ?v2_8) rfl rfl hS6 ?y2_8 ?_
        case y2_8 => intro W hW; (try subst hW); go_simp; try with_reducible rfl
        simp only [Act.put, List.setIfInBounds_toArray, List.set_cons_zero, List.set_cons_succ]
        refine rg_done (by kernel_rfl) ?_
        by_cases hyx : y < x
        · have e : Hid (Lib.compareBytes l k = 1) := by show _ = _; rw [hc.out, hst.out, if_neg hxy, if_pos hyx]
          go_wp2_with fail
          go_ret
          exact ⟨ret_i e.out.symm, hS6⟩
        · have e : Hid (Lib.compareBytes l k = Lib.compareBytes (l.drop (j + 1)) (k.drop (j + 1))) := by show _ = _; rw [hc.out, hst.out, if_neg hxy, if_neg hyx]
          go_wp2_with fail
          go_roundw
          case rel => exact ⟨j + 1, by omega, by omega, by go_num, e, hS6⟩
          case measure => simp only [intOf]; omega
    · have e : Hid (Lib.compareBytes l k = if n < m then -1 else if m < n then 1 else 0) := by
        show _ = _
        rw [hc.out, cmp_end l k j (by rw [HL.out]; exact hj) (by rw [HK.out]; exact hj2) (by rw [HL.out, HK.out]; exact hlt), HL.out, HK.out]
      by_cases hnm : n < m
      · have hjn : j = n := by omega
        subst hjn
        have e' : Hid (Lib.compareBytes l k = -1) := by show _ = _; rw [e.out, if_pos hnm]
        clear e
        go_wp2_with fail
        go_ret
        exact ⟨ret_i e'.out.symm, hw⟩
      · have hjm : j = m := by omega
        by_cases hmn : m < n
        · have e' : Hid (Lib.compareBytes l k = 1) := by show _ = _; rw [e.out, if_neg hnm, if_pos hmn]
          clear e
          subst hjm
          go_wp2_with fail
          go_ret
          exact ⟨ret_i e'.out.symm, hw⟩
        · have e' : Hid (Lib.compareBytes l k = 0) := by show _ = _; rw [e.out, if_neg hnm, if_neg hmn]
          clear e
          have hnm' : n = m := by omega
          subst hjm
          subst hnm'
          go_wp2_with fail
          go_ret
          exact ⟨ret_i e'.out.symm, hw⟩
end Go.Proofs.Ytehbahobkgoapaa
