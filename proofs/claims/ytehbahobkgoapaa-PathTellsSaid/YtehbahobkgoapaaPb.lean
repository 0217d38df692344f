/- Contracts of path's functions, part two: Common, Under. -/
import Derived.Test.YtehbahobkgoapaaPa
namespace Go.Proofs.Ytehbahobkgoapaa
open Go Go.RowKit
set_option linter.unusedSimpArgs false
set_option linter.unusedVariables false

theorem lead_fact : ∀ x, x < 256 → x ≠ 0 → (1 ≤ Lib.bitLen x ∧ Lib.bitLen x ≤ 8 ∧ x.testBit (Lib.bitLen x - 1) = true ∧ ∀ e, e < 8 - Lib.bitLen x → x.testBit (7 - e) = false) := by decide +kernel
theorem common_eq (p q : List UInt8) (k : Nat) (hk : k < 32) (hl : ∀ j, j < k → p.getD j 0 = q.getD j 0) (h0 : (p.getD k 0).toNat ^^^ (q.getD k 0).toNat ≠ 0) :
    comm p q = 8 * k + (8 - Lib.bitLen ((p.getD k 0).toNat ^^^ (q.getD k 0).toNat)) := by
  obtain ⟨a, ha⟩ : ∃ a, a = (p.getD k 0).toNat := ⟨_, rfl⟩
  obtain ⟨b, hb⟩ : ∃ b, b = (q.getD k 0).toNat := ⟨_, rfl⟩
  have ha8 : a < 256 := by rw [ha]; exact UInt8.toNat_lt _
  have hb8 : b < 256 := by rw [hb]; exact UInt8.toNat_lt _
  rw [← ha, ← hb] at h0 ⊢
  obtain ⟨h1, h2, h3, h4⟩ := lead_fact (a ^^^ b) (Nat.xor_lt_two_pow (n := 8) ha8 hb8) h0
  apply comm_of
  · omega
  · intro d hd
    unfold tb
    by_cases hdk : d / 8 < k
    · rw [hl _ hdk]
    · have e : d / 8 = k := by omega
      rw [e, ← ha, ← hb]
      have := h4 (d % 8) (by omega)
      rw [Nat.testBit_xor] at this
      simpa using this
  · intro hlt
    unfold tb
    have e : (8 * k + (8 - Lib.bitLen (a ^^^ b))) / 8 = k := by omega
    have e2 : 7 - (8 * k + (8 - Lib.bitLen (a ^^^ b))) % 8 = Lib.bitLen (a ^^^ b) - 1 := by omega
    rw [e, e2, ← ha, ← hb]
    rw [Nat.testBit_xor] at h3
    simpa using h3

set_option maxRecDepth 100000 in
theorem common_any (p q : List UInt8) (w : World) (hp : p.length = 32) (hq : q.length = 32) :
    Calls Try.prog 53 #[arr8 p, arr8 q] w fun e w' => e = .returned (.int .i64 (comm p q : Nat)) ∧ Below w.heap.size w w' := by
  have HP := Lib.hid hp
  have HQ := Lib.hid hq
  clear hp hq
  have h2 := Two.mk' w 23 p q
  unfold arr8
  by_cases he : p = q
  · have e1 : comm p q = 256 := by rw [he]; exact comm_self q
    rw [e1]
    have HE := Lib.hid he; clear he
    go_enter Try.func53, Try.ntmps53
    go_wp2_with (first
      | ((with_reducible refine at_dst 7 ?_); refine wpList_yield rfl _ (exec_load_agg at23' (.tmp 2) rfl _ 23 (bvs p) rfl h2.p (by rw [bvs_length]; exact HP.out)) ?_)
      | ((with_reducible refine at_dst 8 ?_); refine wpList_yield rfl _ (exec_load_agg at23' (.tmp 3) rfl _ 23 (bvs q) rfl h2.q (by rw [bvs_length]; exact HQ.out)) ?_)
      | ((with_reducible refine at_dst 9 ?_); refine wpList_yield rfl (.bool true) (by rw [exec_eql_arr ab23 (.tmp 7) (.tmp 8) rfl p q rfl rfl HP.out HQ.out, HE.out, beq_self_eq_true]) ?_))
    go_ret
    exact ⟨rfl, h2.b⟩
  · have HE := Lib.hid he; clear he
    have hbeq : Hid ((p == q) = false) := by show _ = _; simpa using HE.out
    go_enter Try.func53, Try.ntmps53
    go_wp2_with (first
      | ((with_reducible refine at_dst 7 ?_); refine wpList_yield rfl _ (exec_load_agg at23' (.tmp 2) rfl _ 23 (bvs p) rfl h2.p (by rw [bvs_length]; exact HP.out)) ?_)
      | ((with_reducible refine at_dst 8 ?_); refine wpList_yield rfl _ (exec_load_agg at23' (.tmp 3) rfl _ 23 (bvs q) rfl h2.q (by rw [bvs_length]; exact HQ.out)) ?_)
      | ((with_reducible refine at_dst 9 ?_); refine wpList_yield rfl (.bool false) (by rw [exec_eql_arr ab23 (.tmp 7) (.tmp 8) rfl p q rfl rfl HP.out HQ.out, hbeq.out]) ?_))
    generalize hW : (w.alloc (.cells (bvs p).toArray 23)).alloc (.cells (bvs q).toArray 23) = w0 at *
    clear hW
    go_loopw [10] (fun i wr => ∃ k : Nat, k ≤ 32 ∧ i = .int .i64 (k : Int) ∧ (∀ j, j < k → p.getD j 0 = q.getD j 0) ∧ Below w0.heap.size w0 wr) (fun i _ => 32 - (intOf i).toNat)
    case atStart => exact ⟨0, by omega, by go_num, fun j hj => by omega, Below.refl _ _⟩
    case round =>
      obtain ⟨k, hk, rfl, hl, hw⟩ := hrel
      have hb := h2.b.trans (hw.mono h2.b.size)
      by_cases hlt : k < 32
      · have hc1 : wr.cell? ⟨w.heap.size, k, none⟩ = some (.int .u8 ((p.getD k 0).toNat : Int)) := key_cell (h2.p.below hw h2.p.lt) HP.out k hlt
        have hc2 : wr.cell? ⟨w.heap.size + 1, k, none⟩ = some (.int .u8 ((q.getD k 0).toNat : Int)) := key_cell (h2.q.below hw h2.q.lt) HQ.out k hlt
        have hx0 := u8_xor_nat (p.getD k 0).toNat (q.getD k 0).toNat (UInt8.toNat_lt _) (UInt8.toNat_lt _)
        have hx8 : (p.getD k 0).toNat ^^^ (q.getD k 0).toNat < 256 := Nat.xor_lt_two_pow (n := 8) (UInt8.toNat_lt _) (UInt8.toNat_lt _)
        have hxe := Lib.hid (common_eq p q k hlt hl)
        have hxn : Hid ((p.getD k 0).toNat ^^^ (q.getD k 0).toNat = 0 → p.getD k 0 = q.getD k 0) := by
          intro h
          apply UInt8.toNat_inj.1
          apply Nat.eq_of_testBit_eq
          intro i
          have h1 := congrArg (fun z => z.testBit i) h
          simpa [Nat.testBit_xor] using h1
        obtain ⟨a, ha⟩ : ∃ a, a = p.getD k 0 := ⟨_, rfl⟩
        obtain ⟨b, hbb⟩ : ∃ b, b = q.getD k 0 := ⟨_, rfl⟩
        rw [← ha] at hc1 hx0 hx8 hxe hxn
        rw [← hbb] at hc2 hx0 hx8 hxe hxn
        have HA := Lib.hid ha; clear ha
        have HB := Lib.hid hbb; clear hbb
        generalize hx : a.toNat ^^^ b.toNat = x at *
        have HX := Lib.hid hx; clear hx
        have HLK := Lib.hid hl; clear hl
        have h8 : Lib.bitLen x ≤ 8 := Lib.bitLen_le8 ⟨x, hx8⟩
        go_wp2_with fail
        refine rg_begin (Below wr.heap.size wr) [] [] [0, 1, 2, 3, 4, 5, 6, 7] 0 mixed (by kernel_rfl) (fun _ _ _ _ e hh => ⟨e.symm.trans hh.1, hh.2⟩) ?_
        simp only [pick, List.map_cons, List.map_nil, List.getD_cons_zero, List.getD_cons_succ]
        have hS : (Below wr.heap.size wr) _ := (Below.refl _ _).drew
        refine rg_take (v := ?v1_0) rfl rfl hS ?y1_0 ?_
        case y1_0 => intro W hW; (try subst hW); go_simp; try with_reducible rfl
        simp only [Act.put, List.setIfInBounds_toArray, List.set_cons_zero, List.set_cons_succ]
        refine rg_take (v := ?v1_1) rfl rfl hS ?y1_1 ?_
        case y1_1 => intro W hW; (try subst hW); go_simp; try with_reducible rfl
        simp only [Act.put, List.setIfInBounds_toArray, List.set_cons_zero, List.set_cons_succ]
        refine rg_take (v := ?v1_2) rfl rfl hS ?y1_2 ?_
        case y1_2 => intro W hW; have hcw1 := (Below.cell hW (World.block_lt_of_cell? _ _ hc1)).trans hc1; go_simp; try with_reducible rfl
        simp only [Act.put, List.setIfInBounds_toArray, List.set_cons_zero, List.set_cons_succ]
        refine rg_take (v := ?v1_3) rfl rfl hS ?y1_3 ?_
        case y1_3 => intro W hW; (try subst hW); go_simp; try with_reducible rfl
        simp only [Act.put, List.setIfInBounds_toArray, List.set_cons_zero, List.set_cons_succ]
        refine rg_take (v := ?v1_4) rfl rfl hS ?y1_4 ?_
        case y1_4 => intro W hW; (try subst hW); go_simp; try with_reducible rfl
        simp only [Act.put, List.setIfInBounds_toArray, List.set_cons_zero, List.set_cons_succ]
        refine rg_take (v := ?v1_5) rfl rfl hS ?y1_5 ?_
        case y1_5 => intro W hW; have hcw2 := (Below.cell hW (World.block_lt_of_cell? _ _ hc2)).trans hc2; go_simp; try with_reducible rfl
        simp only [Act.put, List.setIfInBounds_toArray, List.set_cons_zero, List.set_cons_succ]
        refine rg_take (v := ?v1_6) rfl rfl hS ?y1_6 ?_
        case y1_6 => intro W hW; (try subst hW); go_simp; try with_reducible rfl
        simp only [Act.put, List.setIfInBounds_toArray, List.set_cons_zero, List.set_cons_succ]
        refine rg_take (v := ?v1_7) rfl rfl hS ?y1_7 ?_
        case y1_7 => intro W hW; (try subst hW); go_simp; try with_reducible rfl
        simp only [Act.put, List.setIfInBounds_toArray, List.set_cons_zero, List.set_cons_succ]
        refine rg_done (by kernel_rfl) ?_
        go_wp2_with (go_at_call 128; refine (bits_lead8 (x : Int) _ (by omega) (by omega)).mono ?_; rintro e w1 ⟨rfl, rfl⟩; rw [Int.toNat_natCast])
        · go_ret
          rename_i hh
          have h0 : x ≠ 0 := by simpa using hh
          refine ⟨ret_i ?_, h2.b.trans ((hw.trans (hS.mono hw.size)).mono h2.b.size)⟩
          have := hxe.out h0
          rw [this]
          omega
        · rename_i hh
          have h0 : x = 0 := by simpa using hh
          go_roundw
          case rel =>
            refine ⟨k + 1, by omega, by go_num, fun j hj => ?_, hw.trans (hS.mono hw.size)⟩
            by_cases hjk : j = k
            · rw [hjk, ← HA.out, ← HB.out]; exact hxn.out h0
            · exact HLK.out j (by omega)
          case measure => simp only [intOf]; omega
      · obtain rfl : k = 32 := by omega
        exfalso
        apply HE.out
        apply List.ext_getElem? 
        intro i
        by_cases hi : i < 32
        · have := hl i hi
          rw [List.getD_eq_getElem?_getD, List.getD_eq_getElem?_getD] at this
          rw [List.getElem?_eq_getElem (by rw [HP.out]; exact hi), List.getElem?_eq_getElem (by rw [HQ.out]; exact hi)] at this ⊢
          simpa using this
        · rw [List.getElem?_eq_none (by rw [HP.out]; omega), List.getElem?_eq_none (by rw [HQ.out]; omega)]

def underB (p q : List UInt8) (d : Int) : Bool := decide (0 ≤ d ∧ d ≤ 256 ∧ d ≤ comm p q)
set_option maxRecDepth 100000 in
theorem under_any (p q : List UInt8) (d : Int) (w : World) (hp : p.length = 32) (hq : q.length = 32) (hd : -9223372036854775808 ≤ d ∧ d ≤ 9223372036854775807) :
    Calls Try.prog 67 #[arr8 p, arr8 q, .int .i64 d] w fun e w' => e = .returned (.bool (underB p q d)) ∧ Below w.heap.size w w' := by
  have HP := Lib.hid hp
  have HQ := Lib.hid hq
  clear hp hq
  have h2 := Two.mk' w 23 p q
  by_cases h0 : d < 0
  · have e1 : underB p q d = false := by unfold underB; simp; omega
    rw [e1]; clear e1
    unfold arr8
    go_enter Try.func67, Try.ntmps67
    go_wp2_with fail
    go_ret
    exact ⟨rfl, h2.b⟩
  · by_cases h1 : 256 < d
    · have e1 : underB p q d = false := by unfold underB; simp; omega
      rw [e1]; clear e1
      unfold arr8
      go_enter Try.func67, Try.ntmps67
      go_wp2_with fail
      go_ret
      exact ⟨rfl, h2.b⟩
    · have e1 : underB p q d = decide (d ≤ comm p q) := by unfold underB; congr 1; simp; omega
      rw [e1]; clear e1
      have h2d : d ≤ 256 := by omega
      unfold arr8
      go_enter Try.func67, Try.ntmps67
      go_wp2_with (first
        | ((with_reducible refine at_dst 14 ?_); refine wpList_yield_w (by simp [Region.wanted, yielded, Act.put, h2d]) _ (exec_load_agg at23' (.tmp 3) rfl _ 23 (bvs p) rfl h2.p (by rw [bvs_length]; exact HP.out)) ?_)
        | ((with_reducible refine at_dst 15 ?_); refine wpList_yield_w (by simp [Region.wanted, yielded, Act.put, h2d]) _ (exec_load_agg at23' (.tmp 4) rfl _ 23 (bvs q) rfl h2.q (by rw [bvs_length]; exact HQ.out)) ?_)
        | (go_at_call 53; refine (common_any p q _ HP.out HQ.out).mono ?_; rintro e w1 ⟨rfl, hw1⟩))
      go_ret
      exact ⟨rfl, h2.b.trans (hw1.mono h2.b.size)⟩
end Go.Proofs.Ytehbahobkgoapaa
