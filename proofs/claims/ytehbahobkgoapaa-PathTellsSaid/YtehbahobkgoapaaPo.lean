/- The walk of PathOrder: it says true for every two keys. -/
import Derived.Test.YtehbahobkgoapaaPd
namespace Go.Proofs.Ytehbahobkgoapaa
open Go Go.RowKit
set_option linter.unusedSimpArgs false
set_option linter.unusedVariables false

theorem exec_eql_is {P : Program} {w : World} {a : Act} {o : Oper} {T T' n : Nat} (B : AB P T n) (x y : Operand) (ho : o.op = .binOp .eql T x y T') (xs ys : List UInt8) (ex : a.eval x = .agg (bvs xs).toArray) (ey : a.eval y = .agg (bvs ys).toArray) (hx : xs.length = n) (hy : ys.length = n)
    {b : Bool} (h : (xs == ys) = b) : (execOp a.eval o).run P w = .ok (.value (.bool b)) w := by rw [exec_eql_arr B x y ho xs ys ex ey hx hy, h]
theorem exec_neq_is {P : Program} {w : World} {a : Act} {o : Oper} {T T' n : Nat} (B : AB P T n) (x y : Operand) (ho : o.op = .binOp .neq T x y T') (xs ys : List UInt8) (ex : a.eval x = .agg (bvs xs).toArray) (ey : a.eval y = .agg (bvs ys).toArray) (hx : xs.length = n) (hy : ys.length = n)
    {b : Bool} (h : (xs == ys) = !b) : (execOp a.eval o).run P w = .ok (.value (.bool b)) w := by rw [exec_neq_arr B x y ho xs ys ex ey hx hy, h, Bool.not_not]

theorem cmpZ_bd (a b : Nat) : -1 ≤ cmpZ a b ∧ cmpZ a b ≤ 1 := by unfold cmpZ; split <;> (try split) <;> omega
theorem bitZ_bd (p : List UInt8) (d : Int) : -1 ≤ bitZ p d ∧ bitZ p d ≤ 1 := by
  unfold bitZ
  split
  · cases tb p d.toNat <;> simp
  · omega
theorem bitZ_eq (p : List UInt8) (c : Nat) (hc : c < 256) : bitZ p c = ((tb p c).toNat : Int) := by
  unfold bitZ; rw [if_pos (by omega), Int.toNat_natCast]
theorem order_fact (p q : List UInt8) (hp : p.length = 32) (hq : q.length = 32) (h : comm p q < 256) :
    bitZ p (comm p q) ≠ bitZ q (comm p q) ∧ cmpZ (nOf p) (nOf q) = 2 * bitZ p (comm p q) - 1 := by
  have h1 := comm_unlike p q h
  have h2 := (comm_ge hp hq (comm p q) (by omega)).1 (Nat.le_refl _)
  generalize hc : comm p q = c at *
  rw [bitZ_eq _ _ h, bitZ_eq _ _ h]
  have e : ∀ n : Nat, n / 2 ^ (255 - c) = 2 * (n / 2 ^ (256 - c)) + (n.testBit (255 - c)).toNat := by
    intro n
    have e1 : n / 2 ^ (256 - c) = n / 2 ^ (255 - c) / 2 := by
      rw [Nat.div_div_eq_div_mul, ← Nat.pow_succ]; congr 2; omega
    have e2 : (n.testBit (255 - c)).toNat = n / 2 ^ (255 - c) % 2 := by
      rw [Nat.testBit_eq_decide_div_mod_eq]
      have : n / 2 ^ (255 - c) % 2 < 2 := Nat.mod_lt _ (by omega)
      by_cases h : n / 2 ^ (255 - c) % 2 = 1
      · rw [h]; rfl
      · have : n / 2 ^ (255 - c) % 2 = 0 := by omega
        rw [this]; rfl
    rw [e1, e2]
    omega
  have ep := e (nOf p)
  have eq := e (nOf q)
  rw [← tb_nOf p hp c h] at ep
  rw [← tb_nOf q hq c h, ← h2] at eq
  have mono : ∀ a b : Nat, a / 2 ^ (255 - c) < b / 2 ^ (255 - c) → a < b := by
    intro a b hab
    apply Nat.lt_of_not_le
    intro hle
    have := Nat.div_le_div_right (c := 2 ^ (255 - c)) hle
    omega
  cases hx : tb p c <;> cases hy : tb q c <;> simp only [hx, hy, Bool.toNat_false, Bool.toNat_true] at h1 ep eq ⊢
  · exact absurd rfl h1
  · refine ⟨by decide, ?_⟩
    have := mono (nOf p) (nOf q) (by omega)
    unfold cmpZ; rw [if_pos this]; rfl
  · refine ⟨by decide, ?_⟩
    have := mono (nOf q) (nOf p) (by omega)
    unfold cmpZ; rw [if_neg (by omega), if_pos this]; rfl
  · exact absurd rfl h1

set_option maxRecDepth 100000 in
set_option maxHeartbeats 4000000 in
theorem path_order (p q : List UInt8) (w : World) (hp : p.length = 32) (hq : q.length = 32) :
    Calls Try.prog 7 #[arr8 p, arr8 q] w fun e w' => e = .returned (.bool true) ∧ Below w.heap.size w w' := by
  have HP := Lib.hid hp
  have HQ := Lib.hid hq
  have h2 := Two.mk' w 23 p q
  have hc256 := comm_le p q
  have HS := Lib.hid (comm_symm p q)
  have HE := Lib.hid (fun h => comm_all hp hq h)
  have HO := Lib.hid (order_fact p q hp hq)
  have HL := Lib.hid (comm_like p q)
  have hkb := cmpZ_bd (nOf p) (nOf q)
  have HN := Lib.hid (cmpZ_neg (nOf q) (nOf p))
  have C1 := Lib.hid (fun W => common_any p q W hp hq)
  have C2 := Lib.hid (fun W => common_any q p W hq hp)
  have D1 := Lib.hid (fun W => compare_any p q W hp hq)
  have D2 := Lib.hid (fun W => compare_any q p W hq hp)
  rw [← comm_symm p q] at C2
  rw [cmpZ_neg] at D2
  have HZ : Hid (p = q → cmpZ (nOf p) (nOf q) = 0) := by rintro rfl; unfold cmpZ; rw [if_neg (by omega), if_neg (by omega)]
  clear hp hq
  generalize comm p q = c at *
  generalize cmpZ (nOf p) (nOf q) = k at *
  have kw : IntKind.i64.wrap k = k := IntWalk.i64_in _ (by omega)
  clear HS HN
  unfold arr8 at *
  go_enter Try.func7, Try.ntmps7
  go_wp2_with (first
    | ((with_reducible refine at_dst 10 ?_); refine wpList_yield rfl _ (exec_load_agg at23' (.tmp 2) rfl _ 23 (bvs p) rfl h2.p (by rw [bvs_length]; exact HP.out)) ?_)
    | ((with_reducible refine at_dst 11 ?_); refine wpList_yield rfl _ (exec_load_agg at23' (.tmp 3) rfl _ 23 (bvs q) rfl h2.q (by rw [bvs_length]; exact HQ.out)) ?_)
    | (go_at_call 53; refine (C1.out _).mono ?_; rintro e w1 ⟨rfl, hw1⟩)
    | ((with_reducible refine at_dst 13 ?_); refine wpList_yield rfl _ (exec_load_agg at23' (.tmp 2) rfl _ 23 (bvs p) rfl (h2.p.below hw1 h2.p.lt) (by rw [bvs_length]; exact HP.out)) ?_)
    | (go_at_call 54; refine (bytes_any p _ HP.out).mono ?_; rintro e w2 ⟨v, rfl, ho2, hw2⟩; obtain ⟨A, cc, rfl, hcl, hcm, hrd⟩ := ho2.rd; rw [HP.out] at hcl ⊢)
    | (go_at_call 55; refine (of_any A 32 cc p _ hrd HP.out (by omega) hcl).mono ?_; rintro e w3 ⟨rfl, hw3⟩; rw [if_pos HP.out, if_pos HP.out])
    | ((with_reducible refine at_op (Op.store 23 (.tmp 7) (.tmp 18)) ?_)
       refine wpList_store_at at23'.i rfl (.tmp 7) (.tmp 18) rfl w3.heap.size 0 23 (bvs keyZ) (bvs p) rfl rfl (Blk.new w3 23 (bvs keyZ)) (by rw [bvs_length]; exact HP.out) (by rw [bvs_length]; simp [keyZ]) (bvs_one _) ?_
       intro w4 hb4 hg4 hs4; rw [splice_keyZ _ HP.out] at hb4))
  have hB4 : Below w.heap.size w w4 := by
    have h3 : Below w.heap.size w w3 := (h2.b.trans (hw1.mono h2.b.size)).trans ((hw2.trans (hw3.mono hw2.size)).mono (Nat.le_trans h2.b.size hw1.size))
    exact (h3.alloc h3.size _).grown hg4 (Nat.le_trans h3.size (by simp)) (by intro k hk; cases hk; exact h3.size)
  have hp4 : Blk w4 w.heap.size 23 (bvs p) := by
    have h1 := ((h2.p.below hw1 h2.p.lt).below hw2 (h2.p.below hw1 h2.p.lt).lt).below hw3 ((h2.p.below hw1 h2.p.lt).below hw2 (h2.p.below hw1 h2.p.lt).lt).lt
    exact (h1.alloc _).grown hg4 (fun e => by have := h1.lt; have := Option.some.inj e; omega)
  have hq4 : Blk w4 (w.heap.size + 1) 23 (bvs q) := by
    have h1 := ((h2.q.below hw1 h2.q.lt).below hw2 (h2.q.below hw1 h2.q.lt).lt).below hw3 ((h2.q.below hw1 h2.q.lt).below hw2 (h2.q.below hw1 h2.q.lt).lt).lt
    exact (h1.alloc _).grown hg4 (fun e => by have := h1.lt; have := Option.some.inj e; omega)
  clear hg4 hs4 hw3 hw2 hrd ho2 h2 hw1
  refine rg_begin (Below w4.heap.size w4) [] [16, 22, 25] [0, 1, 2, 3, 4, 5, 6, 7, 8, 9, 10, 11, 12, 13, 14, 15, 16, 17, 18, 19, 20, 21, 23, 24, 22, 25, 26, 27, 28] 0 mixed (by kernel_rfl) (fun _ _ _ _ e hh => ⟨e.symm.trans hh.1, hh.2⟩) ?_
  simp only [pick, List.map_cons, List.map_nil, List.getD_cons_zero, List.getD_cons_succ]
  have hS : (Below w4.heap.size w4) _ := (Below.refl _ _).drew
  refine rg_take (v := ?v1_0) rfl rfl hS ?y1_0 ?_
  case y1_0 => intro W hW; (try subst hW); go_simp; try with_reducible rfl
  simp only [Act.put, List.setIfInBounds_toArray, List.set_cons_zero, List.set_cons_succ]
  refine rg_take (v := ?v1_1) rfl rfl hS ?y1_1 ?_
  case y1_1 => intro W hW; (try subst hW); go_simp; try with_reducible rfl
  simp only [Act.put, List.setIfInBounds_toArray, List.set_cons_zero, List.set_cons_succ]
  refine rg_take (v := ?v1_2) rfl rfl hS ?y1_2 ?_
  case y1_2 => intro W hW; (try subst hW); go_simp; try with_reducible rfl
  simp only [Act.put, List.setIfInBounds_toArray, List.set_cons_zero, List.set_cons_succ]
  refine rg_take rfl rfl hS (fun W hW => exec_load_agg at23' (.tmp 7) rfl w3.heap.size 23 (bvs p) rfl (hb4.below hW hb4.lt) (by rw [bvs_length]; exact HP.out)) ?_
  simp only [Act.put, List.setIfInBounds_toArray, List.set_cons_zero, List.set_cons_succ]
  refine rg_take rfl rfl hS (fun W hW => exec_load_agg at23' (.tmp 2) rfl w.heap.size 23 (bvs p) rfl (hp4.below hW hp4.lt) (by rw [bvs_length]; exact HP.out)) ?_
  simp only [Act.put, List.setIfInBounds_toArray, List.set_cons_zero, List.set_cons_succ]
  refine rg_take rfl rfl hS (fun W hW => exec_neq_is (b := false) ab23 (.tmp 23) (.tmp 24) rfl p p rfl rfl HP.out HP.out (by simp)) ?_
  simp only [Act.put, List.setIfInBounds_toArray, List.set_cons_zero, List.set_cons_succ]
  refine rg_take (v := ?v1_6) rfl rfl hS ?y1_6 ?_
  case y1_6 => intro W hW; (try subst hW); go_simp; try with_reducible rfl
  simp only [Act.put, List.setIfInBounds_toArray, List.set_cons_zero, List.set_cons_succ]
  refine rg_take (v := ?v1_7) rfl rfl hS ?y1_7 ?_
  case y1_7 => intro W hW; (try subst hW); go_simp; try with_reducible rfl
  simp only [Act.put, List.setIfInBounds_toArray, List.set_cons_zero, List.set_cons_succ]
  refine rg_take (v := ?v1_8) rfl rfl hS ?y1_8 ?_
  case y1_8 => intro W hW; (try subst hW); go_simp; try with_reducible rfl
  simp only [Act.put, List.setIfInBounds_toArray, List.set_cons_zero, List.set_cons_succ]
  refine rg_take (v := ?v1_9) rfl rfl hS ?y1_9 ?_
  case y1_9 => intro W hW; (try subst hW); go_simp; try with_reducible rfl
  simp only [Act.put, List.setIfInBounds_toArray, List.set_cons_zero, List.set_cons_succ]
  refine rg_take (v := ?v1_10) rfl rfl hS ?y1_10 ?_
  case y1_10 => intro W hW; (try subst hW); go_simp; try with_reducible rfl
  simp only [Act.put, List.setIfInBounds_toArray, List.set_cons_zero, List.set_cons_succ]
  refine rg_take (v := ?v1_11) rfl rfl hS ?y1_11 ?_
  case y1_11 => intro W hW; (try subst hW); go_simp; try with_reducible rfl
  simp only [Act.put, List.setIfInBounds_toArray, List.set_cons_zero, List.set_cons_succ]
  refine rg_take (v := ?v1_12) rfl rfl hS ?y1_12 ?_
  case y1_12 => intro W hW; (try subst hW); go_simp; try with_reducible rfl
  simp only [Act.put, List.setIfInBounds_toArray, List.set_cons_zero, List.set_cons_succ]
  refine rg_take (v := ?v1_13) rfl rfl hS ?y1_13 ?_
  case y1_13 => intro W hW; (try subst hW); go_simp; try with_reducible rfl
  simp only [Act.put, List.setIfInBounds_toArray, List.set_cons_zero, List.set_cons_succ]
  refine rg_take rfl rfl hS (fun W hW => exec_load_agg at23' (.tmp 3) rfl (w.heap.size + 1) 23 (bvs q) rfl (hq4.below hW hq4.lt) (by rw [bvs_length]; exact HQ.out)) ?_
  simp only [Act.put, List.setIfInBounds_toArray, List.set_cons_zero, List.set_cons_succ]
  refine rg_take rfl rfl hS (fun W hW => exec_load_agg at23' (.tmp 2) rfl w.heap.size 23 (bvs p) rfl (hp4.below hW hp4.lt) (by rw [bvs_length]; exact HP.out)) ?_
  simp only [Act.put, List.setIfInBounds_toArray, List.set_cons_zero, List.set_cons_succ]
  refine rg_one rfl rfl ?_; intro K hK; go_simp
  refine (C2.out _).mono ?_
  rintro e w5 ⟨rfl, hw5⟩
  have hS5 := hS.trans (hw5.mono hS.size)
  refine hK _ _ (fun _ => hS5) ?_; clear hK
  refine rg_take (v := ?v1_17) rfl rfl hS5 ?y1_17 ?_
  case y1_17 => intro W hW; (try subst hW); go_simp; try with_reducible rfl
  simp only [Act.put, List.setIfInBounds_toArray, List.set_cons_zero, List.set_cons_succ]
  refine rg_take (v := ?v1_18) rfl rfl hS5 ?y1_18 ?_
  case y1_18 => intro W hW; (try subst hW); go_simp; try with_reducible rfl
  simp only [Act.put, List.setIfInBounds_toArray, List.set_cons_zero, List.set_cons_succ]
  refine rg_take (v := ?v1_19) rfl rfl hS5 ?y1_19 ?_
  case y1_19 => intro W hW; (try subst hW); go_simp; try with_reducible rfl
  simp only [Act.put, List.setIfInBounds_toArray, List.set_cons_zero, List.set_cons_succ]
  refine rg_take rfl rfl hS5 (fun W hW => exec_load_agg at23' (.tmp 2) rfl w.heap.size 23 (bvs p) rfl (hp4.below hW hp4.lt) (by rw [bvs_length]; exact HP.out)) ?_
  simp only [Act.put, List.setIfInBounds_toArray, List.set_cons_zero, List.set_cons_succ]
  refine rg_take rfl rfl hS5 (fun W hW => exec_load_agg at23' (.tmp 3) rfl (w.heap.size + 1) 23 (bvs q) rfl (hq4.below hW hq4.lt) (by rw [bvs_length]; exact HQ.out)) ?_
  simp only [Act.put, List.setIfInBounds_toArray, List.set_cons_zero, List.set_cons_succ]
  refine rg_take rfl rfl hS5 (fun W hW => exec_load_agg at23' (.tmp 3) rfl (w.heap.size + 1) 23 (bvs q) rfl (hq4.below hW hq4.lt) (by rw [bvs_length]; exact HQ.out)) ?_
  simp only [Act.put, List.setIfInBounds_toArray, List.set_cons_zero, List.set_cons_succ]
  refine rg_take rfl rfl hS5 (fun W hW => exec_load_agg at23' (.tmp 2) rfl w.heap.size 23 (bvs p) rfl (hp4.below hW hp4.lt) (by rw [bvs_length]; exact HP.out)) ?_
  simp only [Act.put, List.setIfInBounds_toArray, List.set_cons_zero, List.set_cons_succ]
  refine rg_one rfl rfl ?_; intro K hK; go_simp
  refine (D1.out _).mono ?_
  rintro e w6 ⟨rfl, hw6⟩
  have hS6 := hS5.trans (hw6.mono hS5.size)
  refine hK _ _ (fun _ => hS6) ?_; clear hK
  refine rg_one rfl rfl ?_; intro K hK; go_simp
  refine (D2.out _).mono ?_
  rintro e w7 ⟨rfl, hw7⟩
  have hS7 := hS6.trans (hw7.mono hS6.size)
  refine hK _ _ (fun _ => hS7) ?_; clear hK
  refine rg_take (v := ?v1_26) rfl rfl hS7 ?y1_26 ?_
  case y1_26 => intro W hW; (try subst hW); go_simp; try with_reducible rfl
  simp only [Act.put, List.setIfInBounds_toArray, List.set_cons_zero, List.set_cons_succ]
  refine rg_take (v := ?v1_27) rfl rfl hS7 ?y1_27 ?_
  case y1_27 => intro W hW; (try subst hW); go_simp; try with_reducible rfl
  simp only [Act.put, List.setIfInBounds_toArray, List.set_cons_zero, List.set_cons_succ]
  refine rg_take (v := ?v1_28) rfl rfl hS7 ?y1_28 ?_
  case y1_28 => intro W hW; (try subst hW); go_simp; try with_reducible rfl
  simp only [Act.put, List.setIfInBounds_toArray, List.set_cons_zero, List.set_cons_succ]
  refine rg_done (by kernel_rfl) ?_
  have hB7 : Below w.heap.size w w7 := hB4.trans (hS7.mono hB4.size)
  have hp7 := hp4.below hS7 hp4.lt
  have hq7 := hq4.below hS7 hq4.lt
  clear hS5 hS6 hw5 hw6 hw7 hb4 hp4 hq4 hS7 hS hB4
  by_cases hc : c = 256
  · have hpq := HE.out hc
    have HPQ := Lib.hid hpq
    have hk0 := HZ.out hpq
    subst hk0
    subst hc
    clear hpq HZ HO
    go_wp2_with (first
      | ((with_reducible refine at_dst 51 ?_); refine wpList_yield rfl _ (exec_load_agg at23' (.tmp 2) rfl _ 23 (bvs p) rfl hp7 (by rw [bvs_length]; exact HP.out)) ?_)
      | ((with_reducible refine at_dst 52 ?_); refine wpList_yield rfl _ (exec_load_agg at23' (.tmp 3) rfl _ 23 (bvs q) rfl hq7 (by rw [bvs_length]; exact HQ.out)) ?_)
      | ((with_reducible refine at_dst 53 ?_); refine wpList_yield rfl (.bool true) (exec_eql_is ab23 (.tmp 51) (.tmp 52) rfl p q rfl rfl HP.out HQ.out (by simpa using HPQ.out)) ?_)
      | ((with_reducible refine at_dst 55 ?_); refine wpList_yield_w (by simp [Region.wanted, yielded, Act.put]) _ (exec_load_agg at23' (.tmp 2) rfl _ 23 (bvs p) rfl hp7 (by rw [bvs_length]; exact HP.out)) ?_)
      | ((with_reducible refine at_dst 56 ?_); refine wpList_yield_w (by simp [Region.wanted, yielded, Act.put]) _ (exec_load_agg at23' (.tmp 3) rfl _ 23 (bvs q) rfl hq7 (by rw [bvs_length]; exact HQ.out)) ?_)
      | (go_at_call 56; refine (D1.out _).mono ?_; rintro e w8 ⟨rfl, hw8⟩))
    go_ret
    exact ⟨rfl, hB7.trans (hw8.mono hB7.size)⟩
  · have hc : c < 256 := by omega
    obtain ⟨hxy, hkx⟩ := HO.out hc
    have B1 := Lib.hid (fun W => bit_any p c W HP.out (by omega))
    have B2 := Lib.hid (fun W => bit_any q c W HQ.out (by omega))
    have hxb := bitZ_bd p c
    have hyb := bitZ_bd q c
    generalize bitZ p (c : Int) = x at *
    generalize bitZ q (c : Int) = y at *
    subst hkx
    clear HZ HO HE
    have x1 : IntKind.i64.wrap (2 * x) = 2 * x := IntWalk.i64_in _ (by omega)
    have x2 : IntKind.i64.wrap (2 * x - 1) = 2 * x - 1 := IntWalk.i64_in _ (by omega)
    unfold arr8 at B1 B2
    go_wp2_with fail
    have hgt : ¬ ((255 : Int) < (c : Int)) := by omega
    have hge : ¬ ((c : Int) < 0) := by omega
    have hbe : (x == y) = false := by simpa using hxy
    refine rg_begin (Below w7.heap.size w7) [] [9, 12, 18, 21] [0, 1, 2, 3, 4, 5, 6, 7, 8, 10, 11, 9, 12, 13, 14, 15, 16, 17, 19, 20, 18, 21, 22, 23, 24, 25] 0 mixed (by kernel_rfl) (fun _ _ _ _ e hh => ⟨e.symm.trans hh.1, hh.2⟩) ?_
    simp only [pick, List.map_cons, List.map_nil, List.getD_cons_zero, List.getD_cons_succ]
    have hS : (Below w7.heap.size w7) _ := (Below.refl _ _).drew
    refine rg_take (v := ?v2_0) rfl rfl hS ?y2_0 ?_
    case y2_0 => intro W hW; (try subst hW); go_simp; try with_reducible rfl
    simp only [Act.put, List.setIfInBounds_toArray, List.set_cons_zero, List.set_cons_succ]
    refine rg_take (v := ?v2_1) rfl rfl hS ?y2_1 ?_
    case y2_1 => intro W hW; (try subst hW); go_simp; try with_reducible rfl
    simp only [Act.put, List.setIfInBounds_toArray, List.set_cons_zero, List.set_cons_succ]
    refine rg_take (v := ?v2_2) rfl rfl hS ?y2_2 ?_
    case y2_2 => intro W hW; (try subst hW); go_simp; try with_reducible rfl
    simp only [Act.put, List.setIfInBounds_toArray, List.set_cons_zero, List.set_cons_succ]
    refine rg_take (v := ?v2_3) rfl rfl hS ?y2_3 ?_
    case y2_3 => intro W hW; (try subst hW); go_simp; try with_reducible rfl
    simp only [Act.put, List.setIfInBounds_toArray, List.set_cons_zero, List.set_cons_succ]
    refine rg_take (v := ?v2_4) rfl rfl hS ?y2_4 ?_
    case y2_4 => intro W hW; (try subst hW); go_simp; try with_reducible rfl
    simp only [Act.put, List.setIfInBounds_toArray, List.set_cons_zero, List.set_cons_succ]
    refine rg_take (v := ?v2_5) rfl rfl hS ?y2_5 ?_
    case y2_5 => intro W hW; (try subst hW); go_simp; try with_reducible rfl
    simp only [Act.put, List.setIfInBounds_toArray, List.set_cons_zero, List.set_cons_succ]
    refine rg_take (v := ?v2_6) rfl rfl hS ?y2_6 ?_
    case y2_6 => intro W hW; (try subst hW); go_simp; try with_reducible rfl
    simp only [Act.put, List.setIfInBounds_toArray, List.set_cons_zero, List.set_cons_succ]
    refine rg_take rfl rfl hS (fun W hW => exec_load_agg at23' (.tmp 2) rfl w.heap.size 23 (bvs p) rfl (hp7.below hW hp7.lt) (by rw [bvs_length]; exact HP.out)) ?_
    simp only [Act.put, List.setIfInBounds_toArray, List.set_cons_zero, List.set_cons_succ]
    refine rg_take (v := ?v2_8) rfl rfl hS ?y2_8 ?_
    case y2_8 => intro W hW; (try subst hW); go_simp; try with_reducible rfl
    simp only [Act.put, List.setIfInBounds_toArray, List.set_cons_zero, List.set_cons_succ]
    refine rg_take rfl rfl hS (fun W hW => exec_load_agg at23' (.tmp 3) rfl (w.heap.size + 1) 23 (bvs q) rfl (hq7.below hW hq7.lt) (by rw [bvs_length]; exact HQ.out)) ?_
    simp only [Act.put, List.setIfInBounds_toArray, List.set_cons_zero, List.set_cons_succ]
    refine rg_take (v := ?v2_11) rfl rfl hS ?y2_11 ?_
    case y2_11 => intro W hW; (try subst hW); go_simp; try with_reducible rfl
    simp only [Act.put, List.setIfInBounds_toArray, List.set_cons_zero, List.set_cons_succ]
    refine rg_one rfl rfl ?_; intro K hK; go_simp
    refine (B1.out _).mono ?_
    rintro e w8 ⟨rfl, hw8⟩
    have hS8 := hS.trans (hw8.mono hS.size)
    refine hK _ _ (fun _ => hS8) ?_; clear hK
    refine rg_one rfl rfl ?_; intro K hK; go_simp
    refine (B2.out _).mono ?_
    rintro e w9 ⟨rfl, hw9⟩
    have hS9 := hS8.trans (hw9.mono hS8.size)
    refine hK _ _ (fun _ => hS9) ?_; clear hK
    refine rg_take (v := ?v2_13) rfl rfl hS9 ?y2_13 ?_
    case y2_13 => intro W hW; (try subst hW); go_simp; try with_reducible rfl
    simp only [Act.put, List.setIfInBounds_toArray, List.set_cons_zero, List.set_cons_succ]
    refine rg_take (v := ?v2_14) rfl rfl hS9 ?y2_14 ?_
    case y2_14 => intro W hW; (try subst hW); go_simp; try with_reducible rfl
    simp only [Act.put, List.setIfInBounds_toArray, List.set_cons_zero, List.set_cons_succ]
    refine rg_take (v := ?v2_15) rfl rfl hS9 ?y2_15 ?_
    case y2_15 => intro W hW; (try subst hW); go_simp; try with_reducible rfl
    simp only [Act.put, List.setIfInBounds_toArray, List.set_cons_zero, List.set_cons_succ]
    refine rg_take rfl rfl hS9 (fun W hW => exec_load_agg at23' (.tmp 2) rfl w.heap.size 23 (bvs p) rfl (hp7.below hW hp7.lt) (by rw [bvs_length]; exact HP.out)) ?_
    simp only [Act.put, List.setIfInBounds_toArray, List.set_cons_zero, List.set_cons_succ]
    refine rg_take rfl rfl hS9 (fun W hW => exec_load_agg at23' (.tmp 3) rfl (w.heap.size + 1) 23 (bvs q) rfl (hq7.below hW hq7.lt) (by rw [bvs_length]; exact HQ.out)) ?_
    simp only [Act.put, List.setIfInBounds_toArray, List.set_cons_zero, List.set_cons_succ]
    refine rg_take rfl rfl hS9 (fun W hW => exec_load_agg at23' (.tmp 2) rfl w.heap.size 23 (bvs p) rfl (hp7.below hW hp7.lt) (by rw [bvs_length]; exact HP.out)) ?_
    simp only [Act.put, List.setIfInBounds_toArray, List.set_cons_zero, List.set_cons_succ]
    refine rg_take (v := ?v2_20) rfl rfl hS9 ?y2_20 ?_
    case y2_20 => intro W hW; (try subst hW); go_simp; try with_reducible rfl
    simp only [Act.put, List.setIfInBounds_toArray, List.set_cons_zero, List.set_cons_succ]
    refine rg_one rfl rfl ?_; intro K hK; go_simp
    refine (D1.out _).mono ?_
    rintro e w10 ⟨rfl, hw10⟩
    have hS10 := hS9.trans (hw10.mono hS9.size)
    refine hK _ _ (fun _ => hS10) ?_; clear hK
    refine rg_one rfl rfl ?_; intro K hK; go_simp
    refine (B1.out _).mono ?_
    rintro e w11 ⟨rfl, hw11⟩
    have hS11 := hS10.trans (hw11.mono hS10.size)
    refine hK _ _ (fun _ => hS11) ?_; clear hK
    refine rg_take (v := ?v2_22) rfl rfl hS11 ?y2_22 ?_
    case y2_22 => intro W hW; (try subst hW); go_simp; try with_reducible rfl
    simp only [Act.put, List.setIfInBounds_toArray, List.set_cons_zero, List.set_cons_succ]
    refine rg_take (v := ?v2_23) rfl rfl hS11 ?y2_23 ?_
    case y2_23 => intro W hW; (try subst hW); go_simp; try with_reducible rfl
    simp only [Act.put, List.setIfInBounds_toArray, List.set_cons_zero, List.set_cons_succ]
    refine rg_take (v := ?v2_24) rfl rfl hS11 ?y2_24 ?_
    case y2_24 => intro W hW; (try subst hW); go_simp; try with_reducible rfl
    simp only [Act.put, List.setIfInBounds_toArray, List.set_cons_zero, List.set_cons_succ]
    refine rg_take (v := ?v2_25) rfl rfl hS11 ?y2_25 ?_
    case y2_25 => intro W hW; (try subst hW); go_simp; try with_reducible rfl
    simp only [Act.put, List.setIfInBounds_toArray, List.set_cons_zero, List.set_cons_succ]
    refine rg_done (by kernel_rfl) ?_
    have hB11 : Below w.heap.size w w11 := hB7.trans (hS11.mono hB7.size)
    have hp11 := hp7.below hS11 hp7.lt
    have hq11 := hq7.below hS11 hq7.lt
    clear hS8 hS9 hS10 hw8 hw9 hw10 hw11 hp7 hq7 hS11 hS hB7 B1 B2 C1 C2 D1 D2 hgt hge hbe
    go_wp2_with fail
    go_loopw [9] (fun i wr => ∃ d : Nat, d ≤ c ∧ i = .int .i64 (d : Int) ∧ Below w11.heap.size w11 wr) (fun i _ => c - (intOf i).toNat)
    case atStart => exact ⟨0, by omega, by go_num, Below.refl _ _⟩
    case round =>
      obtain ⟨d, hd, rfl, hwr⟩ := hrel
      obtain ⟨wq, rfl⟩ : ∃ wq : World, wq = wr := ⟨_, rfl⟩
      by_cases hlt : d < c
      · have B1 := Lib.hid (fun W => bit_any p d W HP.out (by omega))
        have B2 := Lib.hid (fun W => bit_any q d W HQ.out (by omega))
        have hee : bitZ q d = bitZ p d := by rw [bitZ_eq _ _ (by omega), bitZ_eq _ _ (by omega), HL.out d hlt]
        rw [hee] at B2
        clear hee
        generalize bitZ p (d : Int) = z at *
        unfold arr8 at B1 B2
        have hpq := hp11.below hwr hp11.lt
        have hqq := hq11.below hwr hq11.lt
        go_wp2_with fail
        refine rg_begin (Below wq.heap.size wq) [] [2, 5] [0, 1, 3, 4, 2, 5, 6] 0 mixed (by kernel_rfl) (fun _ _ _ _ e hh => ⟨e.symm.trans hh.1, hh.2⟩) ?_
        simp only [pick, List.map_cons, List.map_nil, List.getD_cons_zero, List.getD_cons_succ]
        have hS : (Below wq.heap.size wq) _ := (Below.refl _ _).drew
        refine rg_take rfl rfl hS (fun W hW => exec_load_agg at23' (.tmp 2) rfl w.heap.size 23 (bvs p) rfl (hpq.below hW hpq.lt) (by rw [bvs_length]; exact HP.out)) ?_
        simp only [Act.put, List.setIfInBounds_toArray, List.set_cons_zero, List.set_cons_succ]
        refine rg_take (v := ?v3_1) rfl rfl hS ?y3_1 ?_
        case y3_1 => intro W hW; (try subst hW); go_simp; try with_reducible rfl
        simp only [Act.put, List.setIfInBounds_toArray, List.set_cons_zero, List.set_cons_succ]
        refine rg_take rfl rfl hS (fun W hW => exec_load_agg at23' (.tmp 3) rfl (w.heap.size + 1) 23 (bvs q) rfl (hqq.below hW hqq.lt) (by rw [bvs_length]; exact HQ.out)) ?_
        simp only [Act.put, List.setIfInBounds_toArray, List.set_cons_zero, List.set_cons_succ]
        refine rg_take (v := ?v3_4) rfl rfl hS ?y3_4 ?_
        case y3_4 => intro W hW; (try subst hW); go_simp; try with_reducible rfl
        simp only [Act.put, List.setIfInBounds_toArray, List.set_cons_zero, List.set_cons_succ]
        refine rg_one rfl rfl ?_; intro K hK; go_simp
        refine (B1.out _).mono ?_
        rintro e w8 ⟨rfl, hw8⟩
        have hS8 := hS.trans (hw8.mono hS.size)
        refine hK _ _ (fun _ => hS8) ?_; clear hK
        refine rg_one rfl rfl ?_; intro K hK; go_simp
        refine (B2.out _).mono ?_
        rintro e w9 ⟨rfl, hw9⟩
        have hS9 := hS8.trans (hw9.mono hS8.size)
        refine hK _ _ (fun _ => hS9) ?_; clear hK
        refine rg_take (v := ?v3_6) rfl rfl hS9 ?y3_6 ?_
        case y3_6 => intro W hW; (try subst hW); go_simp; try with_reducible rfl
        simp only [Act.put, List.setIfInBounds_toArray, List.set_cons_zero, List.set_cons_succ]
        refine rg_done (by kernel_rfl) ?_
        go_wp2_with fail
        go_roundw
        case rel => exact ⟨d + 1, by omega, by go_num, hwr.trans (hS9.mono hwr.size)⟩
        case measure => simp only [intOf]; omega
      · obtain rfl : d = c := by omega
        go_wp2_with fail
        go_ret
        exact ⟨rfl, hB11.trans (hwr.mono hB11.size)⟩
end Go.Proofs.Ytehbahobkgoapaa
