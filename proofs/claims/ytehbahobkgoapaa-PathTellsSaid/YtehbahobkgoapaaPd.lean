/- Contracts of path's functions, part four: Flip, Next. -/
import Derived.Test.YtehbahobkgoapaaPc
namespace Go.Proofs.Ytehbahobkgoapaa
open Go Go.RowKit
set_option linter.unusedSimpArgs false
set_option linter.unusedVariables false

def flipK (p : List UInt8) (d : Int) : List UInt8 := if 0 ≤ d ∧ d < 256 then be 32 (flipN (nOf p) d.toNat) else keyZ
def flipE (d : Int) : Int := if 0 ≤ d ∧ d < 256 then 0 else 2
theorem flipK_length (p : List UInt8) (d : Int) : (flipK p d).length = 32 := by unfold flipK; split; exact be_length _ _; exact keyZ_length
theorem xor_mask : ∀ x, x < 256 → ∀ k, k < 8 → (x ^^^ (128 / 2 ^ k) < 256 ∧ ∀ e, e < 8 → (x ^^^ (128 / 2 ^ k)).testBit (7 - e) = if e = k then !x.testBit (7 - e) else x.testBit (7 - e)) := by decide +kernel
theorem flip_set (p : List UInt8) (n : Nat) (hp : p.length = 32) (hn : n < 256) : p.set (n / 8) (UInt8.ofNat ((p.getD (n / 8) 0).toNat ^^^ (128 / 2 ^ (n % 8)))) = be 32 (flipN (nOf p) n) := by
  apply key_of (by simp [hp]) (flipN_lt _ _ (nOf_lt32 hp) hn)
  intro e he
  have h1 := xor_mask (p.getD (n / 8) 0).toNat (UInt8.toNat_lt _) (n % 8) (by omega)
  have e1 := tb_nOf p hp e he
  rw [flipN_bit _ _ _ he hn, ← e1]
  unfold tb
  rw [set_getD _ _ _ _ (by omega)]
  by_cases h : e / 8 = n / 8
  · rw [if_pos h, UInt8.toNat_ofNat_of_lt' h1.1, h1.2 _ (by omega), h]
    by_cases h2 : e = n
    · rw [if_pos (by omega), if_pos h2]
    · rw [if_neg (by omega), if_neg h2]
  · rw [if_neg h, if_neg (by rintro rfl; exact h rfl)]
theorem xor_word (x n : Nat) (hx : x < 256) : bits .xor .u8 (x : Int) (128 / 2 ^ ((n : Int) % 8).toNat) = ((x ^^^ (128 / 2 ^ (n % 8)) : Nat) : Int) := by
  have e1 : ((n : Int) % 8).toNat = n % 8 := by omega
  have e2 : (128 : Int) / 2 ^ (n % 8) = ((128 / 2 ^ (n % 8) : Nat) : Int) := by simp
  have e3 : 128 / 2 ^ (n % 8) < 256 := Nat.lt_of_le_of_lt (Nat.div_le_self _ _) (by omega)
  rw [e1, e2, u8_xor_nat _ _ hx e3]

set_option maxRecDepth 100000 in
set_option maxHeartbeats 1000000 in
theorem flip_any (p : List UInt8) (d : Int) (w : World) (hp : p.length = 32) (hd : -9223372036854775808 ≤ d ∧ d ≤ 9223372036854775807) :
    Calls Try.prog 69 #[arr8 p, .int .i64 d] w fun e w' => e = .returned (.tuple #[arr8 (flipK p d), .int .i64 (flipE d)]) ∧ Below w.heap.size w w' := by
  have HP := Lib.hid hp
  have h2 := Two.mk' w 23 p keyZ
  by_cases hr : 0 ≤ d ∧ d < 256
  · unfold flipK flipE
    rw [if_pos hr, if_pos hr]
    obtain ⟨n, rfl⟩ := Int.eq_ofNat_of_zero_le hr.1
    have hn : n < 256 := by omega
    have hlx := Lib.hid (flip_set p n hp hn)
    rw [Int.toNat_natCast]
    clear hr hd
    obtain ⟨x, hx⟩ : ∃ x, x = (p.getD (n / 8) 0).toNat := ⟨_, rfl⟩
    have hx8 : x < 256 := by rw [hx]; exact UInt8.toNat_lt _
    obtain ⟨m, hmm⟩ : ∃ m, m = n / 8 := ⟨_, rfl⟩
    have k2 : IntKind.i64.wrap ((n : Int) / 8) = (m : Int) := by rw [IntWalk.i64_in _ (by omega)]; omega
    have k3 : (m : Int) < 32 := by omega
    have kx := xor_word x n hx8
    have hx8' : x ^^^ (128 / 2 ^ (n % 8)) < 256 := (xor_mask x hx8 (n % 8) (by omega)).1
    rw [← hx, ← hmm] at hlx
    have HM := Lib.hid hmm
    have HX := Lib.hid hx
    clear hmm hx hp
    generalize be 32 (flipN (nOf p) n) = y at *
    generalize hz : x ^^^ (128 / 2 ^ (n % 8)) = z at *
    have HZ := Lib.hid hz; clear hz
    unfold arr8
    go_enter Try.func69, Try.ntmps69
    go_wp2_with fail
    generalize hW : World.alloc (World.alloc w _) _ = w0
    have h3 : Two w w0 23 p keyZ := by rw [← hW]; exact h2
    clear h2 hW
    have hc : w0.cell? ⟨w.heap.size, m, none⟩ = some (.int .u8 (x : Int)) := by
      rw [HX.out, HM.out]; exact key_cell h3.p HP.out _ (by omega)
    have hf := h3.p.free m
    refine rg_begin (fun W => W = w0.drew) [8] [5, 8] [0, 1, 2, 3, 4, 5, 6, 7, 8] 0 mixed (by kernel_rfl) (fun _ _ _ _ e hh => ⟨e.symm.trans hh.1, hh.2⟩) ?_
    simp only [pick, List.map_cons, List.map_nil, List.getD_cons_zero, List.getD_cons_succ]
    have hS : (fun W => W = w0.drew) _ := rfl
    refine rg_take (v := ?v1_0) rfl rfl hS ?y1_0 ?_
    case y1_0 => intro W hW; (try subst hW); go_simp; try with_reducible rfl
    simp only [Act.put, List.setIfInBounds_toArray, List.set_cons_zero, List.set_cons_succ]
    refine rg_take (v := ?v1_1) rfl rfl hS ?y1_1 ?_
    case y1_1 => intro W hW; (try subst hW); go_simp; try with_reducible rfl
    simp only [Act.put, List.setIfInBounds_toArray, List.set_cons_zero, List.set_cons_succ]
    refine rg_take (v := ?v1_2) rfl rfl hS ?y1_2 ?_
    case y1_2 => intro W hW; (try subst hW); go_simp; try with_reducible rfl
    simp only [Act.put, List.setIfInBounds_toArray, List.set_cons_zero, List.set_cons_succ]
    refine rg_take (v := ?v1_3) rfl rfl hS ?y1_3 ?_
    case y1_3 => intro W hW; (try subst hW); go_simp; try with_reducible rfl
    simp only [Act.put, List.setIfInBounds_toArray, List.set_cons_zero, List.set_cons_succ]
    refine rg_take (v := ?v1_4) rfl rfl hS ?y1_4 ?_
    case y1_4 => intro W hW; (try subst hW); go_simp; try with_reducible rfl
    simp only [Act.put, List.setIfInBounds_toArray, List.set_cons_zero, List.set_cons_succ]
    refine rg_one rfl rfl ?_; intro K hK; go_simp
    refine (mask_any n _ (by omega) (by omega)).mono ?_
    rintro e w1 ⟨rfl, rfl⟩
    refine hK _ _ (fun _ => hS) ?_; clear hK
    refine rg_take (v := ?v1_6) rfl rfl hS ?y1_6 ?_
    case y1_6 => intro W hW; (try subst hW); go_simp; try with_reducible rfl
    simp only [Act.put, List.setIfInBounds_toArray, List.set_cons_zero, List.set_cons_succ]
    refine rg_take (v := ?v1_7) rfl rfl hS ?y1_7 ?_
    case y1_7 => intro W hW; (try subst hW); go_simp; try with_reducible rfl
    simp only [Act.put, List.setIfInBounds_toArray, List.set_cons_zero, List.set_cons_succ]
    refine rg_one rfl rfl ?_; intro K hK; go_simp
    refine hK _ _ (fun h => by cases h) ?_; clear hK
    refine rg_done (by kernel_rfl) ?_
    have hy : Hid (y.length = 32) := by show _ = _; rw [← hlx.out]; simp [HP.out]
    have hb1 : Blk (w0.setCell ⟨w.heap.size, m, none⟩ (.int .u8 (z : Int))).drew w.heap.size 23 (bvs y) := by
      have h1 := h3.p.set_ m (bv (UInt8.ofNat z))
      rw [set_bvs, hlx.out, bv_nat _ hx8'] at h1
      exact h1.drew
    have hb2 : Blk (w0.setCell ⟨w.heap.size, m, none⟩ (.int .u8 (z : Int))).drew (w.heap.size + 1) 23 (bvs keyZ) := (h3.q.far (by simp) _).drew
    have hB1 : Below w.heap.size w (w0.setCell ⟨w.heap.size, m, none⟩ (.int .u8 (z : Int))).drew := (h3.b.setCell (Nat.le_refl _) _).drew
    go_wp2_with (first
      | ((with_reducible refine at_dst 21 ?_); refine wpList_yield rfl _ (exec_load_agg at23' (.tmp 2) rfl _ 23 (bvs y) rfl hb1 (by rw [bvs_length]; exact hy.out)) ?_)
      | ((with_reducible refine at_op (Op.store 23 (.tmp 4) (.tmp 21)) ?_)
         refine wpList_store_at at23'.i rfl (.tmp 4) (.tmp 21) rfl (w.heap.size + 1) 0 23 (bvs keyZ) (bvs y) rfl rfl hb2 (by rw [bvs_length]; exact hy.out) (by rw [bvs_length]; simp [keyZ]) (bvs_one _) ?_
         intro w1 hb3 hg1 hs1))
    (try simp only [Exit.inBlock, Exit.then])
    rw [splice_keyZ _ hy.out] at hb3
    refine bodyPost_ret (ret_cell_tmp rfl at23' _ _ (w.heap.size + 1) 23 (bvs y) rfl hb3 (by rw [bvs_length]; exact hy.out)) rfl ?_
    exact ⟨rfl, hB1.grown hg1 hB1.size (by intro k hk; cases hk; omega)⟩
  · unfold flipK flipE
    rw [if_neg hr, if_neg hr]
    clear hp
    unfold arr8
    by_cases h0 : d < 0
    · go_enter Try.func69, Try.ntmps69
      go_wp2_with (
         (with_reducible refine at_op (Op.store 23 (.tmp 4) (.tmp 12)) ?_)
         refine wpList_store_at at23'.i rfl (.tmp 4) (.tmp 12) rfl (w.heap.size + 1) 0 23 (bvs keyZ) (bvs keyZ) rfl rfl h2.q (by rw [bvs_length]; exact keyZ_length) (by rw [bvs_length]; simp [keyZ]) (bvs_one _) ?_
         intro w1 hb1 hg1 hs1)
      (try simp only [Exit.inBlock, Exit.then])
      rw [splice_keyZ _ keyZ_length] at hb1
      refine bodyPost_ret (ret_cell_tmp rfl at23' _ _ (w.heap.size + 1) 23 (bvs keyZ) rfl hb1 (by rw [bvs_length]; exact keyZ_length)) rfl ?_
      exact ⟨rfl, h2.b.grown hg1 h2.b.size (by intro k hk; cases hk; omega)⟩
    · have h1 : 256 ≤ d := by omega
      go_enter Try.func69, Try.ntmps69
      go_wp2_with (
         (with_reducible refine at_op (Op.store 23 (.tmp 4) (.tmp 12)) ?_)
         refine wpList_store_at at23'.i rfl (.tmp 4) (.tmp 12) rfl (w.heap.size + 1) 0 23 (bvs keyZ) (bvs keyZ) rfl rfl h2.q (by rw [bvs_length]; exact keyZ_length) (by rw [bvs_length]; simp [keyZ]) (bvs_one _) ?_
         intro w1 hb1 hg1 hs1)
      (try simp only [Exit.inBlock, Exit.then])
      rw [splice_keyZ _ keyZ_length] at hb1
      refine bodyPost_ret (ret_cell_tmp rfl at23' _ _ (w.heap.size + 1) 23 (bvs keyZ) rfl hb1 (by rw [bvs_length]; exact keyZ_length)) rfl ?_
      exact ⟨rfl, h2.b.grown hg1 h2.b.size (by intro k hk; cases hk; omega)⟩

def nextTo (p : List UInt8) (j : Nat) : List UInt8 := p.take (32 - j) ++ List.replicate j 0
def nextK (p : List UInt8) : List UInt8 := if nOf p + 1 < 2 ^ 256 then be 32 (nOf p + 1) else keyZ
def nextB (p : List UInt8) : Bool := decide (nOf p + 1 < 2 ^ 256)
theorem nextTo_length (p : List UInt8) (j : Nat) (hp : p.length = 32) (hj : j ≤ 32) : (nextTo p j).length = 32 := by simp [nextTo]; omega
theorem nextTo_zero (p : List UInt8) (hp : p.length = 32) : nextTo p 0 = p := by
  unfold nextTo
  rw [List.take_of_length_le (by omega)]
  simp
theorem nextTo_get (p : List UInt8) (j : Nat) (hp : p.length = 32) (hj : j < 32) : (nextTo p j).getD (31 - j) 0 = p.getD (31 - j) 0 := by
  unfold nextTo
  rw [List.getD_eq_getElem?_getD, List.getElem?_append_left (by simp; omega), List.getElem?_take_of_lt (by omega), List.getD_eq_getElem?_getD]
theorem nextTo_set (p : List UInt8) (j : Nat) (x : UInt8) (hp : p.length = 32) (hj : j < 32) : (nextTo p j).set (31 - j) x = p.take (31 - j) ++ (x :: List.replicate j 0) := by
  unfold nextTo
  rw [List.set_append, if_pos (by simp; omega)]
  have e : p.take (32 - j) = p.take (31 - j) ++ [p[31 - j]'(by omega)] := by
    rw [show 32 - j = (31 - j) + 1 by omega, List.take_succ_eq_append_getElem (by omega)]
  rw [e, List.set_append, if_neg (by simp; omega)]
  have e2 : 31 - j - (List.take (31 - j) p).length = 0 := by simp; omega
  rw [e2]
  simp
theorem nextTo_succ (p : List UInt8) (j : Nat) (hp : p.length = 32) (hj : j < 32) : (nextTo p j).set (31 - j) 0 = nextTo p (j + 1) := by
  rw [nextTo_set p j 0 hp hj]
  unfold nextTo
  rw [show 32 - (j + 1) = 31 - j by omega, List.replicate_succ]
/-- The last j bytes are 255, all. -/
def nextT (p : List UInt8) (j : Nat) : Prop := nOf (p.drop (32 - j)) + 1 = 256 ^ j
theorem nextT_zero (p : List UInt8) (hp : p.length = 32) : nextT p 0 := by
  unfold nextT
  rw [List.drop_eq_nil_of_le (by omega)]
  rfl
theorem drop_one (p : List UInt8) (j : Nat) (hp : p.length = 32) (hj : j < 32) : p.drop (31 - j) = p.getD (31 - j) 0 :: p.drop (32 - j) := by
  rw [List.drop_eq_getElem_cons (by omega), List.getD_eq_getElem?_getD, List.getElem?_eq_getElem (by omega), show 31 - j + 1 = 32 - j by omega]
  rfl
theorem nextT_succ (p : List UInt8) (j : Nat) (hp : p.length = 32) (hj : j < 32) (h : nextT p j) (hx : (p.getD (31 - j) 0).toNat = 255) : nextT p (j + 1) := by
  unfold nextT at h ⊢
  rw [show 32 - (j + 1) = 31 - j by omega, drop_one p j hp hj, nOf_cons, hx, Nat.pow_succ]
  have e : (p.drop (32 - j)).length = j := by simp; omega
  rw [e]
  omega
theorem nOf_zeros (j : Nat) : nOf (List.replicate j 0) = 0 := by
  induction j with
  | zero => rfl
  | succ j ih => rw [List.replicate_succ, nOf_cons, ih]; simp
theorem next_found (p : List UInt8) (j : Nat) (x : UInt8) (hp : p.length = 32) (hj : j < 32) (h : nextT p j) (hx : x.toNat = (p.getD (31 - j) 0).toNat + 1) :
    (nextTo p j).set (31 - j) x = nextK p ∧ nextB p = true := by
  have e0 : p = p.take (31 - j) ++ (p.getD (31 - j) 0 :: p.drop (32 - j)) := by rw [← drop_one p j hp hj, List.take_append_drop]
  have hd : (p.drop (32 - j)).length = j := by simp; omega
  have e1 : nOf p = nOf (p.take (31 - j)) * 256 ^ (j + 1) + ((p.getD (31 - j) 0).toNat * 256 ^ j + nOf (p.drop (32 - j))) := by
    conv => lhs; rw [e0]
    rw [nOf_append, nOf_cons, List.length_cons, hd]
  have e2 : nOf ((nextTo p j).set (31 - j) x) = nOf p + 1 := by
    rw [nextTo_set p j x hp hj, nOf_append, nOf_cons, nOf_zeros, List.length_cons, List.length_replicate, hx, e1]
    unfold nextT at h
    rw [Nat.add_mul]
    omega
  have hl : ((nextTo p j).set (31 - j) x).length = 32 := by rw [List.length_set]; exact nextTo_length p j hp (by omega)
  have hlt := nOf_lt32 hl
  rw [e2] at hlt
  unfold nextK nextB
  rw [if_pos hlt]
  refine ⟨?_, by simpa using hlt⟩
  rw [← e2]
  have := be_nOf ((nextTo p j).set (31 - j) x)
  rw [hl] at this
  exact this.symm
theorem next_none (p : List UInt8) (hp : p.length = 32) (h : nextT p 32) : nextK p = keyZ ∧ nextB p = false := by
  unfold nextT at h
  simp only [Nat.sub_self, List.drop_zero] at h
  have e : (256 : Nat) ^ 32 = 2 ^ 256 := by decide +kernel
  rw [e] at h
  unfold nextK nextB
  rw [if_neg (by omega)]
  exact ⟨rfl, by simp only [decide_eq_false_iff_not]; omega⟩
theorem nextK_length (p : List UInt8) : (nextK p).length = 32 := by unfold nextK; split; exact be_length _ _; exact keyZ_length

set_option maxRecDepth 100000 in
set_option maxHeartbeats 1000000 in
theorem next_any (p : List UInt8) (w : World) (hp : p.length = 32) :
    Calls Try.prog 68 #[arr8 p] w fun e w' => e = .returned (.tuple #[arr8 (nextK p), .bool (nextB p)]) ∧ Below w.heap.size w w' := by
  have HP := Lib.hid hp
  have h2 := Two.mk' w 23 p keyZ
  clear hp
  unfold arr8
  go_enter Try.func68, Try.ntmps68
  go_wp2_with fail
  generalize hW : World.alloc (World.alloc w _) _ = w0
  have h3 : Two w w0 23 p keyZ := by rw [← hW]; exact h2
  clear h2 hW
  go_loopw [4] (fun i wr => ∃ j : Nat, j ≤ 32 ∧ i = .int .i64 (31 - (j : Int)) ∧ nextT p j ∧ Blk wr w.heap.size 23 (bvs (nextTo p j)) ∧ Blk wr (w.heap.size + 1) 23 (bvs keyZ) ∧ Below w.heap.size w wr) (fun i _ => (intOf i + 1).toNat)
  case atStart => exact ⟨0, by omega, by go_num, nextT_zero p HP.out, by rw [nextTo_zero p HP.out]; exact h3.p, h3.q, h3.b⟩
  case round =>
    obtain ⟨j, hj, rfl, hT, hb, hq, hw⟩ := hrel
    have HT := Lib.hid hT; clear hT
    by_cases hlt : j < 32
    · obtain ⟨q, hqq⟩ : ∃ q, q = 31 - j := ⟨_, rfl⟩
      have hi : (31 - (j : Int)) = (q : Int) := by omega
      rw [hi]
      have hq32 : q < 32 := by omega
      have hc : wr.cell? ⟨w.heap.size, q, none⟩ = some (.int .u8 ((p.getD q 0).toNat : Int)) := by
        rw [key_cell hb (nextTo_length _ _ HP.out hj) q hq32, hqq, nextTo_get p j HP.out hlt]
      have hf := hb.free q
      have hx8 : (p.getD q 0).toNat < 256 := UInt8.toNat_lt _
      obtain ⟨x, hx⟩ : ∃ x, x = (p.getD q 0).toNat := ⟨_, rfl⟩
      rw [← hx] at hc hx8
      have HX := Lib.hid hx
      have HQ := Lib.hid hqq
      clear hx hqq hi
      by_cases h255 : x = 255
      · subst h255
        have hT1 := Lib.hid (nextT_succ p j HP.out hlt HT.out (by rw [← HQ.out]; exact HX.out.symm))
        have hs1 := Lib.hid (nextTo_succ p j HP.out hlt)
        go_wp2_with fail
        go_roundw
        case rel =>
          have h1 := hb.set_ q (bv 0)
          rw [set_bvs, HQ.out, hs1.out, ← HQ.out] at h1
          exact ⟨j + 1, by omega, by congr 1; have := HQ.out; omega, hT1.out, h1, hq.far (by simp) _, hw.setCell (Nat.le_refl _) _⟩
        case measure => simp only [intOf]; omega
      · have hx1 : x + 1 < 256 := by omega
        have hfd := Lib.hid (next_found p j (UInt8.ofNat (x + 1)) HP.out hlt HT.out (by rw [UInt8.toNat_ofNat_of_lt' hx1, ← HQ.out, ← HX.out]))
        have hb1 : Blk (wr.setCell ⟨w.heap.size, q, none⟩ (.int .u8 ((x : Int) + 1))) w.heap.size 23 (bvs (nextK p)) := by
          have h1 := hb.set_ q (bv (UInt8.ofNat (x + 1)))
          rw [set_bvs, HQ.out, hfd.out.1, ← HQ.out, bv_nat _ hx1] at h1
          exact h1
        have hb2 : Blk (wr.setCell ⟨w.heap.size, q, none⟩ (.int .u8 ((x : Int) + 1))) (w.heap.size + 1) 23 (bvs keyZ) := hq.far (by simp) _
        have hB1 : Below w.heap.size w (wr.setCell ⟨w.heap.size, q, none⟩ (.int .u8 ((x : Int) + 1))) := hw.setCell (Nat.le_refl _) _
        have hfe := Lib.hid hfd.out.2
        go_wp2_with (first
          | ((with_reducible refine at_dst 18 ?_); refine wpList_yield rfl _ (exec_load_agg at23' (.tmp 1) rfl _ 23 (bvs (nextK p)) rfl hb1 (by rw [bvs_length]; exact nextK_length p)) ?_)
          | ((with_reducible refine at_op (Op.store 23 (.tmp 2) (.tmp 18)) ?_)
             refine wpList_store_at at23'.i rfl (.tmp 2) (.tmp 18) rfl (w.heap.size + 1) 0 23 (bvs keyZ) (bvs (nextK p)) rfl rfl hb2 (by rw [bvs_length]; exact nextK_length p) (by rw [bvs_length]; simp [keyZ]) (bvs_one _) ?_
             intro w1 hb3 hg1 hs1))
        (try simp only [Exit.inBlock, Exit.then])
        rw [splice_keyZ _ (nextK_length p)] at hb3
        refine bodyPost_ret (ret_cell_tmp rfl at23' _ _ (w.heap.size + 1) 23 (bvs (nextK p)) rfl hb3 (by rw [bvs_length]; exact nextK_length p)) rfl ?_
        exact ⟨by rw [hfe.out]; rfl, hB1.grown hg1 hB1.size (by intro k hk; cases hk; omega)⟩
    · obtain rfl : j = 32 := by omega
      have hn := Lib.hid (next_none p HP.out HT.out)
      go_wp2_with (
        (with_reducible refine at_op (Op.store 23 (.tmp 2) (.tmp 19)) ?_)
        refine wpList_store_at at23'.i rfl (.tmp 2) (.tmp 19) rfl (w.heap.size + 1) 0 23 (bvs keyZ) (bvs keyZ) rfl rfl hq (by rw [bvs_length]; exact keyZ_length) (by rw [bvs_length]; simp [keyZ]) (bvs_one _) ?_
        intro w1 hb3 hg1 hs1)
      (try simp only [Exit.inBlock, Exit.then])
      rw [splice_keyZ _ keyZ_length] at hb3
      refine bodyPost_ret (ret_cell_tmp rfl at23' _ _ (w.heap.size + 1) 23 (bvs keyZ) rfl hb3 (by rw [bvs_length]; exact keyZ_length)) rfl ?_
      exact ⟨by rw [hn.out.1, hn.out.2]; rfl, hw.grown hg1 hw.size (by intro k hk; cases hk; omega)⟩
end Go.Proofs.Ytehbahobkgoapaa
