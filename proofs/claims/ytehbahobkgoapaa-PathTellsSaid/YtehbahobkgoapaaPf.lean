/- Contracts of the reference's Set, Common, Under, Flip, Filled (layer 4). -/
import Derived.Test.YtehbahobkgoapaaPe
namespace Go.Proofs.Ytehbahobkgoapaa
open Go Go.RowKit
set_option linter.unusedSimpArgs false
set_option linter.unusedVariables false

/-- A byte with its bit s (from below) as said. -/
def setN (x s : Nat) (b : Bool) : Nat := if x.testBit s = b then x else if b then x + 2 ^ s else x - 2 ^ s
theorem setN_fact : ∀ x, x < 256 → ∀ s, s < 8 → ∀ b : Bool, (setN x s b < 256 ∧ ((setN x s b : Nat) : Int) = (x : Int) + ((b.toNat : Int) - ((x.testBit s).toNat : Int)) * (2 ^ s : Nat) ∧
    ∀ e, e < 8 → (setN x s b).testBit (7 - e) = if e = 7 - s then b else x.testBit (7 - e)) := by decide +kernel
def setK (p : List UInt8) (n : Nat) (b : Bool) : List UInt8 := p.set (n / 8) (UInt8.ofNat (setN (p.getD (n / 8) 0).toNat (7 - n % 8) b))
theorem setK_length (p : List UInt8) (n : Nat) (b : Bool) : (setK p n b).length = p.length := by simp [setK]
theorem tb_setK (p : List UInt8) (n : Nat) (b : Bool) (hp : p.length = 32) (hn : n < 256) (e : Nat) (he : e < 256) : tb (setK p n b) e = if e = n then b else tb p e := by
  have h1 := setN_fact (p.getD (n / 8) 0).toNat (UInt8.toNat_lt _) (7 - n % 8) (by omega) b
  unfold tb setK
  rw [set_getD _ _ _ _ (by omega)]
  by_cases h : e / 8 = n / 8
  · rw [if_pos h, UInt8.toNat_ofNat_of_lt' h1.1, h1.2.2 _ (by omega), h]
    by_cases h2 : e = n
    · rw [if_pos (by omega), if_pos h2]
    · rw [if_neg (by omega), if_neg h2]
  · rw [if_neg h, if_neg (by rintro rfl; exact h rfl)]

set_option maxRecDepth 100000 in
set_option maxHeartbeats 1000000 in
theorem rset_any (p : List UInt8) (n : Nat) (b : Bool) (w : World) (hp : p.length = 32) (hn : n < 256) :
    Calls Try.prog 134 #[arr8 p, .int .i64 (n : Int), .int .i64 (b.toNat : Int)] w fun e w' => e = .returned (arr8 (setK p n b)) ∧ Below w.heap.size w w' := by
  have HP := Lib.hid hp
  have h2 := Two.mk' w 22 p keyZ
  have CB := Lib.hid (fun W => rbit_any p n W hp (by omega))
  rw [bitZ_eq p n hn] at CB
  obtain ⟨x, hx⟩ : ∃ x, x = (p.getD (n / 8) 0).toNat := ⟨_, rfl⟩
  have hx8 : x < 256 := by rw [hx]; exact UInt8.toNat_lt _
  obtain ⟨s, hs⟩ : ∃ s, s = 7 - n % 8 := ⟨_, rfl⟩
  have htb : tb p n = x.testBit s := by unfold tb; rw [← hx, ← hs]
  rw [htb] at CB
  obtain ⟨hf1, hf2, _⟩ := setN_fact x hx8 s (by omega) b
  have HS := Lib.hid (show p.set (n / 8) (UInt8.ofNat (setN x s b)) = setK p n b by unfold setK; rw [← hx, ← hs])
  have hy := setK_length p n b
  rw [hp] at hy
  generalize setK p n b = y at *
  have HY := Lib.hid hy
  have hpow : 2 ^ s ≤ 128 := by
    have : 2 ^ s ≤ 2 ^ 7 := Nat.pow_le_pow_right (by omega) (by omega)
    omega
  have hbb : b.toNat ≤ 1 := by cases b <;> simp
  have htt : (x.testBit s).toNat ≤ 1 := by cases x.testBit s <;> simp
  generalize (x.testBit s).toNat = tt at *
  generalize hbt : b.toNat = bt at *
  have HBT := Lib.hid hbt
  clear hbt
  generalize setN x s b = z at *
  obtain ⟨m, hm⟩ : ∃ m, m = n / 8 := ⟨_, rfl⟩
  have k2 : IntKind.i64.wrap ((n : Int) / 8) = (m : Int) := by rw [IntWalk.i64_in _ (by omega)]; omega
  have k2' : (n : Int) / 8 = (m : Int) := by omega
  have k3 : (m : Int) < 32 := by omega
  have k3' : m < 32 := by omega
  have k4 : 7 - (n : Int) % 8 = (s : Int) := by omega
  have k5 : 7 - (n : Int).tmod 8 = (s : Int) := by rw [Int.tmod_eq_emod_of_nonneg (by omega)]; omega
  have hs7 : s ≤ 7 := by omega
  rw [← hm] at HS hx
  have HX := Lib.hid hx
  have HM := Lib.hid hm
  have HSS := Lib.hid hs
  clear hx hs hm hy htb hp
  unfold arr8 at *
  go_enter Try.func134, Try.ntmps134
  go_wp2_with fail
  generalize hW : World.alloc (World.alloc w _) _ = w0
  have h3 : Two w w0 22 p keyZ := by rw [← hW]; exact h2
  clear h2 hW
  go_loopw [7, 8] (fun v i wr => ∃ k : Nat, k ≤ s ∧ i = .int .i64 (k : Int) ∧ v = .int .i64 ((2 ^ k : Nat) : Int) ∧ w0 = wr) (fun _ i _ => s - (intOf i).toNat)
  case atStart => exact ⟨0, by omega, by go_num, by simp, rfl⟩
  case round =>
    obtain ⟨k, hk, rfl, rfl, rfl⟩ := hrel
    by_cases hlt : k < s
    · have hv8 : 2 ^ k ≤ 128 := by
        have : 2 ^ k ≤ 2 ^ 7 := Nat.pow_le_pow_right (by omega) (by omega)
        omega
      have hnx := Lib.hid (show 2 * 2 ^ k = 2 ^ (k + 1) by rw [Nat.pow_succ]; omega)
      generalize 2 ^ k = v at *
      have hks : (k : Int) < (s : Int) := by omega
      go_wp2_with fail
      go_roundw
      case rel => exact ⟨k + 1, by omega, by go_num, by congr 1; rw [← hnx.out]; omega, by first | rfl | trivial⟩
      case measure => simp only [intOf]; omega
    · obtain rfl : k = s := by omega
      generalize 2 ^ k = v at *
      obtain ⟨dd, hdd⟩ : ∃ dd, dd = (bt : Int) - (tt : Int) := ⟨_, rfl⟩
      have d1 : IntKind.i64.wrap ((bt : Int) - (tt : Int)) = dd := by rw [IntWalk.i64_in _ (by omega)]; omega
      have d1' : (bt : Int) - (tt : Int) = dd := hdd.symm
      rw [← hdd] at hf2
      have hdr : dd = -1 ∨ dd = 0 ∨ dd = 1 := by omega
      have hmm : -128 ≤ dd * (v : Int) ∧ dd * (v : Int) ≤ 128 := by rcases hdr with h | h | h <;> rw [h] <;> omega
      obtain ⟨mm, hmv⟩ : ∃ mm, mm = dd * (v : Int) := ⟨_, rfl⟩
      rw [← hmv] at hf2 hmm
      have d2 : IntKind.i64.wrap (dd * (v : Int)) = mm := by rw [← hmv]; exact IntWalk.i64_in _ (by omega)
      have d2' : dd * (v : Int) = mm := hmv.symm
      have d3 : IntKind.i64.wrap ((x : Int) + mm) = (z : Int) := by rw [← hf2]; exact IntWalk.i64_in _ (by omega)
      have d3' : (x : Int) + mm = (z : Int) := hf2.symm
      have d5 : IntKind.i64.wrap (m : Int) = (m : Int) := IntWalk.i64_in _ (by omega)
      have d6 : IntKind.i64.wrap dd = dd := IntWalk.i64_in _ (by omega)
      have d7 : IntKind.i64.wrap mm = mm := IntWalk.i64_in _ (by omega)
      have d8 : IntKind.i64.wrap (z : Int) = (z : Int) := IntWalk.i64_in _ (by omega)
      have d4 : IntKind.u8.wrap (z : Int) = (z : Int) := by rw [IntKind.wrap_u8]; omega
      have hc : w0.cell? ⟨w.heap.size, m, none⟩ = some (.int .u8 (x : Int)) := by rw [HX.out]; exact key_cell h3.p HP.out _ k3'
      have hsz := h3.b.size
      have hltp := h3.p.lt
      clear hdd hmv hf2
      go_upto_region 6 with fail
      refine rg_begin (Below w0.heap.size w0) [] [8] [0, 1, 2, 3, 4, 5, 6, 7, 10, 8, 9, 11, 12, 13] 0 mixed (by kernel_rfl) (fun _ _ _ _ e hh => ⟨e.symm.trans hh.1, hh.2⟩) ?_
      simp only [pick, List.map_cons, List.map_nil, List.getD_cons_zero, List.getD_cons_succ]
      have hS : (Below w0.heap.size w0) _ := (Below.refl _ _).drew
      refine rg_take (v := ?v1_0) rfl rfl hS ?y1_0 ?_
      case y1_0 => intro W hW; (try subst hW); go_simp; try with_reducible rfl
      simp only [Act.put, List.setIfInBounds_toArray, List.set_cons_zero, List.set_cons_succ]
      refine rg_take (v := ?v1_1) rfl rfl hS ?y1_1 ?_
      case y1_1 => intro W hW; (try subst hW); go_simp; try with_reducible rfl
      simp only [Act.put, List.setIfInBounds_toArray, List.set_cons_zero, List.set_cons_succ]
      refine rg_take (v := ?v1_2) rfl rfl hS ?y1_2 ?_
      case y1_2 => intro W hW; (try subst hW); go_simp; try with_reducible rfl
      simp only [Act.put, List.setIfInBounds_toArray, List.set_cons_zero, List.set_cons_succ]
      refine rg_take (v := ?v1_3) rfl rfl hS ?y1_3 ?_
      case y1_3 => intro W hW; have hcw := (Below.cell hW (World.block_lt_of_cell? _ _ hc)).trans hc; go_simp; try with_reducible rfl
      simp only [Act.put, List.setIfInBounds_toArray, List.set_cons_zero, List.set_cons_succ]
      refine rg_take (v := ?v1_4) rfl rfl hS ?y1_4 ?_
      case y1_4 => intro W hW; (try subst hW); go_simp; try with_reducible rfl
      simp only [Act.put, List.setIfInBounds_toArray, List.set_cons_zero, List.set_cons_succ]
      refine rg_take (v := ?v1_5) rfl rfl hS ?y1_5 ?_
      case y1_5 => intro W hW; (try subst hW); go_simp; try with_reducible rfl
      simp only [Act.put, List.setIfInBounds_toArray, List.set_cons_zero, List.set_cons_succ]
      refine rg_take rfl rfl hS (fun W hW => exec_load_agg at22' (.tmp 3) rfl w.heap.size 22 (bvs p) rfl (h3.p.below hW hltp) (by rw [bvs_length]; exact HP.out)) ?_
      simp only [Act.put, List.setIfInBounds_toArray, List.set_cons_zero, List.set_cons_succ]
      refine rg_take (v := ?v1_7) rfl rfl hS ?y1_7 ?_
      case y1_7 => intro W hW; (try subst hW); go_simp; try with_reducible rfl
      simp only [Act.put, List.setIfInBounds_toArray, List.set_cons_zero, List.set_cons_succ]
      refine rg_take (v := ?v1_10) rfl rfl hS ?y1_10 ?_
      case y1_10 => intro W hW; (try subst hW); go_simp; try with_reducible rfl
      simp only [Act.put, List.setIfInBounds_toArray, List.set_cons_zero, List.set_cons_succ]
      refine rg_one rfl rfl ?_; intro K hK; go_simp
      refine (CB.out _).mono ?_
      rintro e w1 ⟨rfl, hw1⟩
      have hS1 := hS.trans (hw1.mono hS.size)
      refine hK _ _ (fun _ => hS1) ?_; clear hK
      refine rg_take (v := ?v1_9) rfl rfl hS1 ?y1_9 ?_
      case y1_9 => intro W hW; (try subst hW); go_simp; try with_reducible rfl
      simp only [Act.put, List.setIfInBounds_toArray, List.set_cons_zero, List.set_cons_succ]
      refine rg_take (v := ?v1_11) rfl rfl hS1 ?y1_11 ?_
      case y1_11 => intro W hW; (try subst hW); go_simp; try with_reducible rfl
      simp only [Act.put, List.setIfInBounds_toArray, List.set_cons_zero, List.set_cons_succ]
      refine rg_take (v := ?v1_12) rfl rfl hS1 ?y1_12 ?_
      case y1_12 => intro W hW; (try subst hW); go_simp; try with_reducible rfl
      simp only [Act.put, List.setIfInBounds_toArray, List.set_cons_zero, List.set_cons_succ]
      refine rg_take (v := ?v1_13) rfl rfl hS1 ?y1_13 ?_
      case y1_13 => intro W hW; (try subst hW); go_simp; try with_reducible rfl
      simp only [Act.put, List.setIfInBounds_toArray, List.set_cons_zero, List.set_cons_succ]
      refine rg_done (by kernel_rfl) ?_
      have hb1 := h3.p.below hS1 hltp
      have hq1 := h3.q.below hS1 h3.q.lt
      have hB1 := h3.b.trans (hS1.mono hsz)
      have hc1 : w1.cell? ⟨w.heap.size, m, none⟩ = some (.int .u8 (x : Int)) := by rw [HX.out]; exact key_cell hb1 HP.out _ k3'
      have hf := hb1.free m
      have hb2 : Blk (w1.setCell ⟨w.heap.size, m, none⟩ (.int .u8 (z : Int))) w.heap.size 22 (bvs y) := by
        have h1 := hb1.set_ m (bv (UInt8.ofNat z))
        rw [set_bvs, HS.out, bv_nat _ hf1] at h1
        exact h1
      have hq2 : Blk (w1.setCell ⟨w.heap.size, m, none⟩ (.int .u8 (z : Int))) (w.heap.size + 1) 22 (bvs keyZ) := hq1.far (by simp) _
      have hB2 : Below w.heap.size w (w1.setCell ⟨w.heap.size, m, none⟩ (.int .u8 (z : Int))) := hB1.setCell (Nat.le_refl _) _
      go_wp2_with (first
        | ((with_reducible refine at_dst 37 ?_); refine wpList_yield rfl _ (exec_load_agg at22' (.tmp 3) rfl _ 22 (bvs y) rfl hb2 (by rw [bvs_length]; exact HY.out)) ?_)
        | ((with_reducible refine at_op (Op.store 22 (.tmp 6) (.tmp 37)) ?_); refine wpList_store_at at22'.i rfl (.tmp 6) (.tmp 37) rfl (w.heap.size + 1) 0 22 (bvs keyZ) (bvs y) rfl rfl hq2 (by rw [bvs_length]; exact HY.out) (by rw [bvs_length]; simp [keyZ]) (bvs_one _) ?_; intro w3 hb3 hg3 hs3))
      (try simp only [Exit.inBlock, Exit.then])
      rw [splice_keyZ _ HY.out] at hb3
      refine bodyPost_ret (ret_cell rfl at22' _ _ (w.heap.size + 1) 22 (bvs y) rfl hb3 (by rw [bvs_length]; exact HY.out)) rfl ?_
      exact ⟨rfl, hB2.grown hg3 hB2.size (by intro k hk; cases hk; omega)⟩
end Go.Proofs.Ytehbahobkgoapaa
