/- Contracts of the reference's Flip, Filled, Next (layer 4). -/
import Derived.Test.YtehbahobkgoapaaPg
namespace Go.Proofs.Ytehbahobkgoapaa
open Go Go.RowKit
set_option linter.unusedSimpArgs false
set_option linter.unusedVariables false

theorem flip_setK (p : List UInt8) (n : Nat) (hp : p.length = 32) (hn : n < 256) : setK p n (!tb p n) = flipK p n := by
  apply key_ext (by rw [setK_length]; exact hp) (flipK_length _ _)
  intro e he
  rw [tb_setK p n _ hp hn e he, tb_flipK p hp n hn e he]
  by_cases h : e = n
  · rw [if_pos h, if_pos h, h]
  · rw [if_neg h, if_neg h]

set_option maxRecDepth 100000 in
set_option maxHeartbeats 1000000 in
theorem rflip_any (p : List UInt8) (d : Int) (w : World) (hp : p.length = 32) (hd : -9223372036854775808 ≤ d ∧ d ≤ 9223372036854775807) :
    Calls Try.prog 76 #[arr8 p, .int .i64 d] w fun e w' => e = .returned (.tuple #[arr8 (flipK p d), .int .i64 (flipE d)]) ∧ Below w.heap.size w w' := by
  have HP := Lib.hid hp
  have h2 := Two.mk' w 22 p keyZ
  by_cases hr : 0 ≤ d ∧ d < 256
  · obtain ⟨n, rfl⟩ := Int.eq_ofNat_of_zero_le hr.1
    have hn : n < 256 := by omega
    rw [flipE_in n hn]
    have CB := Lib.hid (fun W => rbit_any p n W hp (by omega))
    rw [bitZ_eq p n hn] at CB
    have CS := Lib.hid (fun W => rset_any p n (!tb p n) W hp hn)
    rw [flip_setK p n hp hn] at CS
    have hy := flipK_length p n
    have hsum : (tb p n).toNat + (!tb p n).toNat = 1 := by cases tb p n <;> rfl
    generalize flipK p n = y at *
    generalize (!tb p n).toNat = bn at *
    generalize (tb p n).toNat = an at *
    have HY := Lib.hid hy
    have k1 : IntKind.i64.wrap (1 - (an : Int)) = (bn : Int) := by rw [IntWalk.i64_in _ (by omega)]; omega
    have k2 : 1 - (an : Int) = (bn : Int) := by omega
    have k3 : IntKind.i64.wrap (bn : Int) = (bn : Int) := IntWalk.i64_in _ (by omega)
    clear hy hp hsum hr hd
    unfold arr8 at *
    go_enter Try.func76, Try.ntmps76
    go_wp2_with fail
    generalize hW : World.alloc (World.alloc w _) _ = w0
    have h3 : Two w w0 22 p keyZ := by rw [← hW]; exact h2
    clear h2 hW
    have t0 : Below w0.heap.size w0 w0.drew := (Below.refl _ _).drew
    refine rg_begin (fun W => Blk W w.heap.size 22 (bvs p) ∧ Below w.heap.size w W) [] [4, 6, 7] [0, 1, 2, 3, 4, 5, 6, 7, 8] 0 mixed (by kernel_rfl) (fun _ _ _ _ e hh => ⟨e.symm.trans hh.1, hh.2⟩) ?_
    simp only [pick, List.map_cons, List.map_nil, List.getD_cons_zero, List.getD_cons_succ]
    have hS : (fun W => Blk W w.heap.size 22 (bvs p) ∧ Below w.heap.size w W) _ := ⟨h3.p.drew, h3.b.drew⟩
    refine rg_take rfl rfl hS (fun W hW => exec_load_agg at22' (.tmp 2) rfl w.heap.size 22 (bvs p) rfl hW.1 (by rw [bvs_length]; exact HP.out)) ?_
    simp only [Act.put, List.setIfInBounds_toArray, List.set_cons_zero, List.set_cons_succ]
    refine rg_take (v := ?v1_1) rfl rfl hS ?y1_1 ?_
    case y1_1 => intro W hW; (try subst hW); go_simp; try with_reducible rfl
    simp only [Act.put, List.setIfInBounds_toArray, List.set_cons_zero, List.set_cons_succ]
    refine rg_take rfl rfl hS (fun W hW => exec_load_agg at22' (.tmp 2) rfl w.heap.size 22 (bvs p) rfl hW.1 (by rw [bvs_length]; exact HP.out)) ?_
    simp only [Act.put, List.setIfInBounds_toArray, List.set_cons_zero, List.set_cons_succ]
    refine rg_take (v := ?v1_3) rfl rfl hS ?y1_3 ?_
    case y1_3 => intro W hW; (try subst hW); go_simp; try with_reducible rfl
    simp only [Act.put, List.setIfInBounds_toArray, List.set_cons_zero, List.set_cons_succ]
    refine rg_one rfl rfl ?_; intro K hK; go_simp
    refine (CB.out _).mono ?_
    rintro e w1 ⟨rfl, hw1⟩
    have t1 := t0.trans (hw1.mono t0.size)
    have hS1 : Blk w1 w.heap.size 22 (bvs p) ∧ Below w.heap.size w w1 := ⟨h3.p.below t1 h3.p.lt, h3.b.trans (t1.mono h3.b.size)⟩
    refine hK _ _ (fun _ => hS1) ?_; clear hK
    refine rg_take (v := ?v1_5) rfl rfl hS1 ?y1_5 ?_
    case y1_5 => intro W hW; (try subst hW); go_simp; try with_reducible rfl
    simp only [Act.put, List.setIfInBounds_toArray, List.set_cons_zero, List.set_cons_succ]
    refine rg_one rfl rfl ?_; intro K hK; go_simp
    refine (CS.out _).mono ?_
    rintro e w2 ⟨rfl, hw2⟩
    have t2 := t1.trans (hw2.mono t1.size)
    have hS2 : Blk w2 w.heap.size 22 (bvs p) ∧ Below w.heap.size w w2 := ⟨h3.p.below t2 h3.p.lt, h3.b.trans (t2.mono h3.b.size)⟩
    refine hK _ _ (fun _ => hS2) ?_; clear hK
    refine rg_one rfl rfl ?_; intro K hK
    refine wp_store_at at22'.i (.tmp 4) (.tmp 19) rfl (w.heap.size + 1) 0 22 (bvs keyZ) (bvs y) rfl rfl (h3.q.below t2 h3.q.lt) (by rw [bvs_length]; exact HY.out) (by rw [bvs_length]; simp [keyZ]) (bvs_one _) ?_
    intro w3 hb3 hg3 hs3
    rw [splice_keyZ _ HY.out] at hb3
    have hS3 : Blk w3 w.heap.size 22 (bvs p) ∧ Below w.heap.size w w3 := ⟨hS2.1.grown hg3 (fun e => by have := Option.some.inj e; omega), hS2.2.grown hg3 hS2.2.size (by intro k hk; cases hk; omega)⟩
    refine hK _ _ (fun _ => hS3) ?_; clear hK
    simp only [Act.put]
    refine rg_take (v := ?v1_8) rfl rfl hS3 ?y1_8 ?_
    case y1_8 => intro W hW; (try subst hW); go_simp; try with_reducible rfl
    simp only [Act.put, List.setIfInBounds_toArray, List.set_cons_zero, List.set_cons_succ]
    refine rg_done (by kernel_rfl) ?_
    go_wp2_with fail
    (try simp only [Exit.inBlock, Exit.then])
    refine bodyPost_ret (ret_cell_tmp rfl at22' _ _ (w.heap.size + 1) 22 (bvs y) rfl hb3 (by rw [bvs_length]; exact HY.out)) rfl ?_
    exact ⟨rfl, hS3.2⟩
  · unfold flipK flipE
    rw [if_neg hr, if_neg hr]
    clear hp
    unfold arr8
    by_cases h0 : d < 0
    · go_enter Try.func76, Try.ntmps76
      go_wp2_with (
         (with_reducible refine at_op (Op.store 22 (.tmp 4) (.tmp 12)) ?_)
         refine wpList_store_at at22'.i rfl (.tmp 4) (.tmp 12) rfl (w.heap.size + 1) 0 22 (bvs keyZ) (bvs keyZ) rfl rfl h2.q (by rw [bvs_length]; exact keyZ_length) (by rw [bvs_length]; simp [keyZ]) (bvs_one _) ?_
         intro w1 hb1 hg1 hs1)
      (try simp only [Exit.inBlock, Exit.then])
      rw [splice_keyZ _ keyZ_length] at hb1
      refine bodyPost_ret (ret_cell_tmp rfl at22' _ _ (w.heap.size + 1) 22 (bvs keyZ) rfl hb1 (by rw [bvs_length]; exact keyZ_length)) rfl ?_
      exact ⟨rfl, h2.b.grown hg1 h2.b.size (by intro k hk; cases hk; omega)⟩
    · have h1 : 256 ≤ d := by omega
      go_enter Try.func76, Try.ntmps76
      go_wp2_with (
         (with_reducible refine at_op (Op.store 22 (.tmp 4) (.tmp 12)) ?_)
         refine wpList_store_at at22'.i rfl (.tmp 4) (.tmp 12) rfl (w.heap.size + 1) 0 22 (bvs keyZ) (bvs keyZ) rfl rfl h2.q (by rw [bvs_length]; exact keyZ_length) (by rw [bvs_length]; simp [keyZ]) (bvs_one _) ?_
         intro w1 hb1 hg1 hs1)
      (try simp only [Exit.inBlock, Exit.then])
      rw [splice_keyZ _ keyZ_length] at hb1
      refine bodyPost_ret (ret_cell_tmp rfl at22' _ _ (w.heap.size + 1) 22 (bvs keyZ) rfl hb1 (by rw [bvs_length]; exact keyZ_length)) rfl ?_
      exact ⟨rfl, h2.b.grown hg1 h2.b.size (by intro k hk; cases hk; omega)⟩

set_option maxRecDepth 100000 in
set_option maxHeartbeats 1000000 in
theorem rfilled_any (p : List UInt8) (d : Int) (b : Bool) (w : World) (hp : p.length = 32) (hd : -9223372036854775808 ≤ d ∧ d ≤ 9223372036854775807) :
    Calls Try.prog 77 #[arr8 p, .int .i64 d, .int .i64 (b.toNat : Int)] w fun e w' => e = .returned (.tuple #[arr8 (fillK p d b), .int .i64 (fillE d)]) ∧ Below w.heap.size w w' := by
  have HP := Lib.hid hp
  have h2 := Two.mk' w 22 p keyZ
  by_cases hr : 0 ≤ d ∧ d ≤ 256
  · obtain ⟨n, rfl⟩ := Int.eq_ofNat_of_zero_le hr.1
    have hn : n ≤ 256 := by omega
    rw [fillE_in n hn]
    have HF : Hid (∀ q : List UInt8, q.length = 32 → (∀ e, e < 256 → tb q e = if n ≤ e ∧ e < 256 then b else tb p e) → q = fillK p n b) := by
      intro q hq h
      rw [fillK_in p n b hn]
      apply key_of hq (fillN_lt _ _ _ (nOf_lt32 hp) hn)
      intro e he
      rw [h e he, fillN_bit _ _ _ _ he hn]
      by_cases h1 : e < n
      · rw [if_neg (by omega), if_pos h1, tb_nOf p hp e he]
      · rw [if_pos (by omega), if_neg h1]
    have CS := Lib.hid (fun q k W (hq : q.length = 32) (hk : k < 256) => rset_any q k b W hq hk)
    have hy := fillK_length p n b
    generalize fillK p n b = y at *
    have HY := Lib.hid hy
    have HB : Hid (∀ (q : List UInt8) (k : Nat), q.length = 32 → k < 256 → n ≤ k → (∀ e, e < 256 → tb q e = if n ≤ e ∧ e < k then b else tb p e) → ∀ e, e < 256 → tb (setK q k b) e = if n ≤ e ∧ e < k + 1 then b else tb p e) := by
      intro q k hq hk hnk h e he
      rw [tb_setK q k b hq hk e he]
      by_cases h1 : e = k
      · rw [if_pos h1, if_pos (by omega)]
      · rw [if_neg h1, h e he]
        by_cases h2 : n ≤ e ∧ e < k
        · rw [if_pos h2, if_pos (by omega)]
        · rw [if_neg h2, if_neg (by omega)]
    generalize b.toNat = bn at *
    clear hy hp hr hd
    unfold arr8 at *
    go_enter Try.func77, Try.ntmps77
    go_wp2_with fail
    generalize hW : World.alloc (World.alloc w _) _ = w0
    have h3 : Two w w0 22 p keyZ := by rw [← hW]; exact h2
    clear h2 hW
    go_loopw [8] (fun i wr => ∃ (k : Nat) (q : List UInt8), n ≤ k ∧ k ≤ 256 ∧ i = .int .i64 (k : Int) ∧ Hid (q.length = 32) ∧ Hid (∀ e, e < 256 → tb q e = if n ≤ e ∧ e < k then b else tb p e) ∧ Blk wr w.heap.size 22 (bvs q) ∧ Blk wr (w.heap.size + 1) 22 (bvs keyZ) ∧ Below w.heap.size w wr) (fun i _ => 256 - (intOf i).toNat)
    case atStart => exact ⟨n, p, by omega, hn, by go_num, HP, fun e he => by rw [if_neg (by omega)], h3.p, h3.q, h3.b⟩
    case round =>
      obtain ⟨k, q, hnk, hk, rfl, hq, hbits, hb, hz, hw⟩ := hrel
      by_cases hlt : k < 256
      · have CQ := Lib.hid (fun W => CS.out q k W hq.out hlt)
        have hsl : Hid ((setK q k b).length = 32) := by show _ = _; rw [setK_length]; exact hq.out
        have hnb := Lib.hid (HB.out q k hq.out hlt hnk hbits.out)
        generalize setK q k b = q2 at *
        have hkl : (k : Int) < 256 := by omega
        go_wp2_with (first
          | ((with_reducible refine at_dst 21 ?_); refine wpList_yield rfl _ (exec_load_agg at22' (.tmp 3) rfl _ 22 (bvs q) rfl hb (by rw [bvs_length]; exact hq.out)) ?_)
          | (go_at_call 134; with_reducible refine (CQ.out _).mono ?_; rintro e w2 ⟨rfl, hw2⟩; have hb2 := hb.below hw2 hb.lt; have hz2 := hz.below hw2 hz.lt)
          | ((with_reducible refine at_op (Op.store 22 (.tmp 3) (.tmp 24)) ?_); refine wpList_store_at at22'.i rfl (.tmp 3) (.tmp 24) rfl w.heap.size 0 22 (bvs q) (bvs q2) rfl rfl hb2 (by rw [bvs_length]; exact hsl.out) (by rw [bvs_length, hq.out]; omega) (bvs_one _) ?_; intro w3 hb3 hg3 hs3))
        go_roundw
        case rel =>
          rw [splice_whole _ _ (by rw [bvs_length, bvs_length, hq.out, hsl.out])] at hb3
          have hB2 := hw.trans (hw2.mono hw.size)
          exact ⟨k + 1, q2, by omega, by omega, by go_num, hsl, hnb, hb3, hz2.grown hg3 (fun e => by have := Option.some.inj e; omega), hB2.grown hg3 hB2.size (by intro k hk; cases hk; omega)⟩
        case measure => simp only [intOf]; omega
      · obtain rfl : k = 256 := by omega
        have hqy := HF.out q hq.out hbits.out
        subst hqy
        go_wp2_with (first
          | ((with_reducible refine at_dst 25 ?_); refine wpList_yield rfl _ (exec_load_agg at22' (.tmp 3) rfl _ 22 (bvs q) rfl hb (by rw [bvs_length]; exact HY.out)) ?_)
          | ((with_reducible refine at_op (Op.store 22 (.tmp 6) (.tmp 25)) ?_); refine wpList_store_at at22'.i rfl (.tmp 6) (.tmp 25) rfl (w.heap.size + 1) 0 22 (bvs keyZ) (bvs q) rfl rfl hz (by rw [bvs_length]; exact HY.out) (by rw [bvs_length]; simp [keyZ]) (bvs_one _) ?_; intro w3 hb3 hg3 hs3))
        (try simp only [Exit.inBlock, Exit.then])
        rw [splice_keyZ _ HY.out] at hb3
        refine bodyPost_ret (ret_cell_tmp rfl at22' _ _ (w.heap.size + 1) 22 (bvs q) rfl hb3 (by rw [bvs_length]; exact HY.out)) rfl ?_
        exact ⟨rfl, hw.grown hg3 hw.size (by intro k hk; cases hk; omega)⟩
  · unfold fillK fillE
    rw [if_neg hr, if_neg hr]
    clear hp
    unfold arr8
    by_cases h0 : d < 0
    · go_enter Try.func77, Try.ntmps77
      go_wp2_with (
         (with_reducible refine at_op (Op.store 22 (.tmp 6) (.tmp 15)) ?_)
         refine wpList_store_at at22'.i rfl (.tmp 6) (.tmp 15) rfl (w.heap.size + 1) 0 22 (bvs keyZ) (bvs keyZ) rfl rfl h2.q (by rw [bvs_length]; exact keyZ_length) (by rw [bvs_length]; simp [keyZ]) (bvs_one _) ?_
         intro w1 hb1 hg1 hs1)
      (try simp only [Exit.inBlock, Exit.then])
      rw [splice_keyZ _ keyZ_length] at hb1
      refine bodyPost_ret (ret_cell_tmp rfl at22' _ _ (w.heap.size + 1) 22 (bvs keyZ) rfl hb1 (by rw [bvs_length]; exact keyZ_length)) rfl ?_
      exact ⟨rfl, h2.b.grown hg1 h2.b.size (by intro k hk; cases hk; omega)⟩
    · have h1 : 256 < d := by omega
      go_enter Try.func77, Try.ntmps77
      go_wp2_with (
         (with_reducible refine at_op (Op.store 22 (.tmp 6) (.tmp 15)) ?_)
         refine wpList_store_at at22'.i rfl (.tmp 6) (.tmp 15) rfl (w.heap.size + 1) 0 22 (bvs keyZ) (bvs keyZ) rfl rfl h2.q (by rw [bvs_length]; exact keyZ_length) (by rw [bvs_length]; simp [keyZ]) (bvs_one _) ?_
         intro w1 hb1 hg1 hs1)
      (try simp only [Exit.inBlock, Exit.then])
      rw [splice_keyZ _ keyZ_length] at hb1
      refine bodyPost_ret (ret_cell_tmp rfl at22' _ _ (w.heap.size + 1) 22 (bvs keyZ) rfl hb1 (by rw [bvs_length]; exact keyZ_length)) rfl ?_
      exact ⟨rfl, h2.b.grown hg1 h2.b.size (by intro k hk; cases hk; omega)⟩
end Go.Proofs.Ytehbahobkgoapaa
