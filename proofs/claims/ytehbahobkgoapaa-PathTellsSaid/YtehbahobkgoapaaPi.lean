/- The contract of the reference's Next (layer 4). -/
import Derived.Test.YtehbahobkgoapaaPh
namespace Go.Proofs.Ytehbahobkgoapaa
open Go Go.RowKit
set_option linter.unusedSimpArgs false
set_option linter.unusedVariables false

theorem ones_mod (p : List UInt8) (hp : p.length = 32) (j : Nat) (hj : j ≤ 256) (h : ∀ e, e < 256 → 256 ≤ e + j → tb p e = true) : nOf p % 2 ^ j = 2 ^ j - 1 := by
  apply Nat.eq_of_testBit_eq
  intro i
  rw [Nat.testBit_mod_two_pow, Nat.testBit_two_pow_sub_one]
  by_cases hi : i < j
  · have := h (255 - i) (by omega) (by omega)
    rw [tb_nOf p hp _ (by omega), show 255 - (255 - i) = i by omega] at this
    rw [this]; simp
  · simp [hi]
theorem xor_one_even (a : Nat) : (2 * a) ^^^ 1 = 2 * a + 1 := by
  apply Nat.eq_of_testBit_eq
  intro i
  cases i with
  | zero => simp [Nat.testBit_xor, Nat.testBit_zero]
  | succ i =>
    rw [Nat.testBit_xor, Nat.testBit_succ, Nat.testBit_succ, Nat.testBit_succ]
    have e1 : (2 * a + 1) / 2 = a := by omega
    have e2 : (2 * a) / 2 = a := by omega
    rw [e1, e2]
    simp
theorem next_bits (p : List UInt8) (hp : p.length = 32) (q : Nat) (hq : q < 256) (hz : tb p q = false) (h1 : ∀ e, e < 256 → q < e → tb p e = true) : fillK (setK p q true) ((q + 1 : Nat) : Int) false = nextK p ∧ nextB p = true := by
  have hset : setK p q true = flipK p q := by rw [← flip_setK p q hp hq, hz]; rfl
  have hlen := flipK_length p q
  have hm := ones_mod p hp (255 - q) (by omega) (fun e he hh => h1 e he (by omega))
  have hpos : 0 < 2 ^ (255 - q) := Nat.pow_pos (by omega)
  have hN : nOf p = 2 ^ (255 - q) * (nOf p / 2 ^ (255 - q)) + (2 ^ (255 - q) - 1) := by
    have := Nat.div_add_mod (nOf p) (2 ^ (255 - q))
    rw [hm] at this
    exact this.symm
  have hev : nOf p / 2 ^ (255 - q) % 2 = 0 := by
    have := hz
    rw [tb_nOf p hp q hq, Nat.testBit_eq_decide_div_mod_eq] at this
    simp at this
    omega
  have hflip : flipN (nOf p) q / 2 ^ (255 - q) = nOf p / 2 ^ (255 - q) + 1 := by
    unfold flipN
    rw [Nat.xor_div_two_pow, Nat.div_self hpos]
    have e : nOf p / 2 ^ (255 - q) = 2 * (nOf p / 2 ^ (255 - q) / 2) := by omega
    rw [e, xor_one_even]
  have hfill : fillN (flipN (nOf p) q) (q + 1) false = nOf p + 1 := by
    unfold fillN
    rw [show 256 - (q + 1) = 255 - q by omega, hflip, Nat.mul_add]
    simp only [Bool.false_eq_true, if_false]
    omega
  have hlt : nOf p + 1 < 2 ^ 256 := by rw [← hfill]; exact fillN_lt _ _ _ (flipN_lt _ _ (nOf_lt32 hp) hq) (by omega)
  constructor
  · rw [hset, fillK_in _ _ _ (by omega), nOf_flipK p hp q hq, hfill]
    unfold nextK
    rw [if_pos hlt]
  · unfold nextB
    exact decide_eq_true hlt
theorem next_ones (p : List UInt8) (hp : p.length = 32) (h1 : ∀ e, e < 256 → 256 ≤ e + 256 → tb p e = true) : nextK p = keyZ ∧ nextB p = false := by
  have hm := ones_mod p hp 256 (by omega) h1
  rw [Nat.mod_eq_of_lt (nOf_lt32 hp)] at hm
  have hpos : 0 < 2 ^ 256 := Nat.pow_pos (by omega)
  have hn : ¬ nOf p + 1 < 2 ^ 256 := by omega
  constructor
  · unfold nextK; rw [if_neg hn]
  · unfold nextB; exact decide_eq_false hn

set_option maxRecDepth 100000 in
set_option maxHeartbeats 1000000 in
theorem rnext_any (p : List UInt8) (w : World) (hp : p.length = 32) :
    Calls Try.prog 78 #[arr8 p] w fun e w' => e = .returned (.tuple #[arr8 (nextK p), .bool (nextB p)]) ∧ Below w.heap.size w w' := by
  have HP := Lib.hid hp
  have h2 := Two.mk' w 22 p keyZ
  have hyl := nextK_length p
  have HN := Lib.hid (fun q hq hz h1 => next_bits p hp q hq hz h1)
  have HO := Lib.hid (next_ones p hp)
  generalize nextK p = y at *
  generalize nextB p = yb at *
  have HY := Lib.hid hyl
  clear hyl hp
  unfold arr8
  go_enter Try.func78, Try.ntmps78
  go_wp2_with fail
  generalize hW : World.alloc (World.alloc w _) _ = w0
  have h3 : Two w w0 22 p keyZ := by rw [← hW]; exact h2
  clear h2 hW
  go_loopw [4] (fun i wr => ∃ j : Nat, j ≤ 256 ∧ i = .int .i64 (255 - (j : Int)) ∧ Hid (∀ e, e < 256 → 256 ≤ e + j → tb p e = true) ∧ Blk wr w.heap.size 22 (bvs p) ∧ Blk wr (w.heap.size + 1) 22 (bvs keyZ) ∧ Below w.heap.size w wr) (fun i _ => (intOf i + 1).toNat)
  case atStart => exact ⟨0, by omega, by go_num, fun e he hh => by omega, h3.p, h3.q, h3.b⟩
  case round =>
    obtain ⟨j, hj, rfl, hones, hb, hz, hw⟩ := hrel
    by_cases hlt : j < 256
    · obtain ⟨q, hq⟩ : ∃ q, q = 255 - j := ⟨_, rfl⟩
      have hi : (255 - (j : Int)) = (q : Int) := by omega
      rw [hi]
      have hq6 : q < 256 := by omega
      have CB := Lib.hid (fun W => rbit_any p q W HP.out (by omega))
      rw [bitZ_eq p q hq6] at CB
      have hqs : q + 1 ≤ 256 := by omega
      have CS := Lib.hid (fun W => rset_any p q true W HP.out hq6)
      have hsl : (setK p q true).length = 32 := by rw [setK_length]; exact HP.out
      have CF := Lib.hid (fun W => rfilled_any (setK p q true) ((q + 1 : Nat) : Int) false W hsl (by omega))
      have hfe : fillE ((q + 1 : Nat) : Int) = 0 := fillE_in _ hqs
      rw [hfe] at CF
      have HQ := Lib.hid hq
      obtain ⟨q1, hq1⟩ : ∃ q1, q1 = q + 1 := ⟨_, rfl⟩
      have kq : IntKind.i64.wrap ((q : Int) + 1) = (q1 : Int) := by rw [IntWalk.i64_in _ (by omega)]; omega
      have kq' : (q : Int) + 1 = (q1 : Int) := by omega
      have kq2 : IntKind.i64.wrap (q1 : Int) = (q1 : Int) := IntWalk.i64_in _ (by omega)
      have hnn := HN.out q hq6
      rw [← hq1] at CF hnn
      clear hq hi hfe hq1
      by_cases hbit : tb p q = true
      · rw [hbit] at CB
        have hon : Hid (∀ e, e < 256 → 256 ≤ e + (j + 1) → tb p e = true) := fun e he hh => by
          by_cases hee : e = q
          · rw [hee, hbit]
          · exact hones.out e he (by have := HQ.out; omega)
        have HBT := Lib.hid hbit
        clear hbit hnn CS CF hsl
        unfold arr8 at *
        go_wp2_with (first
          | ((with_reducible refine at_dst 11 ?_); refine wpList_yield rfl _ (exec_load_agg at22' (.tmp 1) rfl _ 22 (bvs p) rfl hb (by rw [bvs_length]; exact HP.out)) ?_)
          | (go_at_call 72; refine (CB.out _).mono ?_; rintro e w1 ⟨rfl, hw1⟩))
        go_roundw
        case rel => exact ⟨j + 1, by omega, by congr 1; have := HQ.out; omega, hon, hb.below hw1 hb.lt, hz.below hw1 hz.lt, hw.trans (hw1.mono hw.size)⟩
        case measure => simp only [intOf]; omega
      · have hb0 : tb p q = false := by simpa using hbit
        rw [hb0] at CB
        obtain ⟨e1, e2⟩ := hnn hb0 (fun e he hh => hones.out e he (by have := HQ.out; omega))
        rw [e1] at CF
        subst e2
        have HSL := Lib.hid hsl
        generalize setK p q true = s at *
        clear hbit hb0 e1 hnn hsl
        unfold arr8 at *
        go_wp2_with (first
          | ((with_reducible refine at_dst 11 ?_); refine wpList_yield rfl _ (exec_load_agg at22' (.tmp 1) rfl _ 22 (bvs p) rfl hb (by rw [bvs_length]; exact HP.out)) ?_)
          | (go_at_call 72; refine (CB.out _).mono ?_; rintro e w1 ⟨rfl, hw1⟩; have hb1 := hb.below hw1 hb.lt; have hz1 := hz.below hw1 hz.lt; have hB1 := hw.trans (hw1.mono hw.size))
          | ((with_reducible refine at_dst 16 ?_); refine wpList_yield rfl _ (exec_load_agg at22' (.tmp 1) rfl _ 22 (bvs p) rfl hb1 (by rw [bvs_length]; exact HP.out)) ?_)
          | (go_at_call 134; refine (CS.out _).mono ?_; rintro e w2 ⟨rfl, hw2⟩; have hz2 := hz1.below hw2 hz1.lt; have hB2 := hB1.trans (hw2.mono hB1.size))
          | (go_at_call 77; refine (CF.out _).mono ?_; rintro e w3 ⟨rfl, hw3⟩; have hz3 := hz2.below hw3 hz2.lt; have hB3 := hB2.trans (hw3.mono hB2.size))
          | ((with_reducible refine at_op (Op.store 22 (.tmp 5) (.tmp 22)) ?_); refine wpList_store_at at22'.i rfl (.tmp 5) (.tmp 22) rfl w3.heap.size 0 22 (bvs keyZ) (bvs y) rfl rfl (Blk.new w3 22 (bvs keyZ)) (by rw [bvs_length]; exact HY.out) (by rw [bvs_length]; simp [keyZ]) (bvs_one _) ?_
             intro w4 hb4 hg4 hs4
             rw [splice_keyZ _ HY.out] at hb4
             have hz4 : Blk w4 (w.heap.size + 1) 22 (bvs keyZ) := (hz3.alloc _).grown hg4 (fun e => by have := hz3.lt; have := Option.some.inj e; omega)
             have hB4 := (new_store hB3 hB3.size hg4).1)
          | ((with_reducible refine at_dst 24 ?_); refine wpList_yield rfl _ (exec_load_agg at22' (.tmp 5) rfl _ 22 (bvs y) rfl hb4 (by rw [bvs_length]; exact HY.out)) ?_)
          | ((with_reducible refine at_op (Op.store 22 (.tmp 2) (.tmp 24)) ?_); refine wpList_store_at at22'.i rfl (.tmp 2) (.tmp 24) rfl (w.heap.size + 1) 0 22 (bvs keyZ) (bvs y) rfl rfl hz4 (by rw [bvs_length]; exact HY.out) (by rw [bvs_length]; simp [keyZ]) (bvs_one _) ?_; intro w5 hb5 hg5 hs5))
        (try simp only [Exit.inBlock, Exit.then])
        rw [splice_keyZ _ HY.out] at hb5
        refine bodyPost_ret (ret_cell_tmp rfl at22' _ _ (w.heap.size + 1) 22 (bvs y) rfl hb5 (by rw [bvs_length]; exact HY.out)) rfl ?_
        exact ⟨rfl, hB4.grown hg5 hB4.size (by intro k hk; cases hk; omega)⟩
    · obtain rfl : j = 256 := by omega
      obtain ⟨e1, e2⟩ := HO.out hones.out
      subst e1 e2
      go_wp2_with (
        (with_reducible refine at_op (Op.store 22 (.tmp 2) (.tmp 25)) ?_)
        refine wpList_store_at at22'.i rfl (.tmp 2) (.tmp 25) rfl (w.heap.size + 1) 0 22 (bvs keyZ) (bvs keyZ) rfl rfl hz (by rw [bvs_length]; exact keyZ_length) (by rw [bvs_length]; simp [keyZ]) (bvs_one _) ?_
        intro w1 hb3 hg1 hs1)
      (try simp only [Exit.inBlock, Exit.then])
      rw [splice_keyZ _ keyZ_length] at hb3
      refine bodyPost_ret (ret_cell_tmp rfl at22' _ _ (w.heap.size + 1) 22 (bvs keyZ) rfl hb3 (by rw [bvs_length]; exact keyZ_length)) rfl ?_
      exact ⟨rfl, hw.grown hg1 hw.size (by intro k hk; cases hk; omega)⟩
end Go.Proofs.Ytehbahobkgoapaa
