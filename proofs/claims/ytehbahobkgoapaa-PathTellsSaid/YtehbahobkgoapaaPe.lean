/- Contracts of the reference's Of, Bit, Set (layer 4). -/
import Derived.Test.YtehbahobkgoapaaPu
namespace Go.Proofs.Ytehbahobkgoapaa
open Go Go.RowKit
set_option linter.unusedSimpArgs false
set_option linter.unusedVariables false

theorem at22' : AT Try.prog 22 32 := ⟨⟨_, Try.underlying22, rfl⟩, by kernel_rfl⟩
def ofTo (l : List UInt8) (k : Nat) : List UInt8 := l.take k ++ List.replicate (32 - k) 0
theorem ofTo_length (l : List UInt8) (k : Nat) (hl : l.length = 32) (hk : k ≤ 32) : (ofTo l k).length = 32 := by simp [ofTo]; omega
theorem ofTo_zero (l : List UInt8) : ofTo l 0 = keyZ := by simp [ofTo, keyZ]
theorem ofTo_all (l : List UInt8) (hl : l.length = 32) : ofTo l 32 = l := by
  unfold ofTo
  rw [List.take_of_length_le (by omega)]
  simp
theorem ofTo_succ (l : List UInt8) (k : Nat) (hl : l.length = 32) (hk : k < 32) : (ofTo l k).set k (l[k]'(by omega)) = ofTo l (k + 1) := by
  unfold ofTo
  rw [List.set_append, if_neg (by simp; omega)]
  have e : k - (l.take k).length = 0 := by simp; omega
  have e2 : l.take (k + 1) = l.take k ++ [l[k]'(by omega)] := List.take_succ_eq_append_getElem (by omega)
  rw [e, show 32 - k = (32 - (k + 1)) + 1 by omega, List.replicate_succ, List.set_cons_zero, e2, List.append_assoc]
  rfl

set_option maxRecDepth 100000 in
set_option maxHeartbeats 1000000 in
theorem rof_any (A : Option Addr) (n c : Nat) (l : List UInt8) (w : World) (hr : Rd w A (bvs l)) (hl : l.length = n) :
    Calls Try.prog 70 #[.slice A n c] w fun e w' => e = .returned (.tuple #[arr8 (if l.length = 32 then l else keyZ), .int .i64 (if l.length = 32 then 0 else 3)]) ∧ Below w.heap.size w w' := by
  have HL := Lib.hid hl
  have h2 := Two.mk' w 22 keyZ keyZ
  by_cases h32 : n = 32
  · subst h32
    rw [if_pos hl, if_pos hl]
    clear hl
    unfold arr8
    go_enter Try.func70, Try.ntmps70
    go_wp2_with fail
    generalize hW : World.alloc (World.alloc w _) _ = w0
    have h3 : Two w w0 22 keyZ keyZ := by rw [← hW]; exact h2
    clear h2 hW
    go_loopw [5] (fun i wr => ∃ k : Nat, k ≤ 32 ∧ i = .int .i64 (k : Int) ∧ Blk wr w.heap.size 22 (bvs keyZ) ∧ Blk wr (w.heap.size + 1) 22 (bvs (ofTo l k)) ∧ Below w.heap.size w wr) (fun i _ => 32 - (intOf i).toNat)
    case atStart => exact ⟨0, by omega, by go_num, h3.p, by rw [ofTo_zero]; exact h3.q, h3.b⟩
    case round =>
      obtain ⟨k, hk, rfl, hz, hb, hw⟩ := hrel
      by_cases hlt : k < 32
      · have hkl : k < l.length := by rw [HL.out]; exact hlt
        obtain ⟨ad, rfl, hcc⟩ := hr (by rw [bvs_length, HL.out]; omega)
        have hc0 := hcc k _ (by rw [bvs_get, List.getElem?_eq_getElem hkl]; rfl)
        have hc : wr.cell? (ad.add k) = some (.int .u8 ((l[k]).toNat : Int)) := (hw.cell (World.block_lt_of_cell? w _ hc0)).trans hc0
        have hd : ∃ v, wr.cell? ⟨w.heap.size + 1, k, none⟩ = some v := by
          rw [hb.cell]
          exact ⟨_, List.getElem?_eq_getElem (by rw [bvs_length, ofTo_length l k HL.out hk]; exact hlt)⟩
        obtain ⟨v, hd⟩ := hd
        have hf := hb.free k
        have hs := Lib.hid (ofTo_succ l k HL.out hlt)
        have h1 := hb.set_ k (bv l[k])
        rw [set_bvs, hs.out] at h1
        have h1' : Blk (wr.setCell ⟨w.heap.size + 1, k, none⟩ (.int .u8 ((l[k]).toNat : Int))) (w.heap.size + 1) 22 (bvs (ofTo l (k + 1))) := h1
        clear h1 hc0 hs
        generalize (l[k]).toNat = x at *
        go_wp2_with fail
        go_roundw
        case rel => exact ⟨k + 1, by omega, by go_num, hz.far (by simp) _, h1', hw.setCell (by simp) _⟩
        case measure => simp only [intOf]; omega
      · obtain rfl : k = 32 := by omega
        rw [ofTo_all l HL.out] at hb
        go_wp2_with (first
          | ((with_reducible refine at_dst 20 ?_); refine wpList_yield rfl _ (exec_load_agg at22' (.tmp 4) rfl _ 22 (bvs l) rfl hb (by rw [bvs_length]; exact HL.out)) ?_)
          | ((with_reducible refine at_op (Op.store 22 (.tmp 2) (.tmp 20)) ?_); refine wpList_store_at at22'.i rfl (.tmp 2) (.tmp 20) rfl w.heap.size 0 22 (bvs keyZ) (bvs l) rfl rfl hz (by rw [bvs_length]; exact HL.out) (by rw [bvs_length]; simp [keyZ]) (bvs_one _) ?_; intro w1 hb1 hg1 hs1))
        (try simp only [Exit.inBlock, Exit.then])
        rw [splice_keyZ _ HL.out] at hb1
        refine bodyPost_ret (ret_cell_tmp rfl at22' _ _ w.heap.size 22 (bvs l) rfl hb1 (by rw [bvs_length]; exact HL.out)) rfl ?_
        exact ⟨rfl, hw.grown hg1 hw.size (by intro k hk; cases hk; omega)⟩
  · rw [if_neg (by omega), if_neg (by omega)]
    clear hl
    have hne : ((n : Int) != 32) = true := by simp; omega
    unfold arr8
    go_enter Try.func70, Try.ntmps70
    go_wp2_with (first
      | ((with_reducible refine at_dst 9 ?_); refine wpList_yield rfl _ (exec_load_agg at22' (.tmp 4) rfl _ 22 (bvs keyZ) rfl h2.q (by rw [bvs_length]; exact keyZ_length)) ?_)
      | ((with_reducible refine at_op (Op.store 22 (.tmp 2) (.tmp 9)) ?_); refine wpList_store_at at22'.i rfl (.tmp 2) (.tmp 9) rfl w.heap.size 0 22 (bvs keyZ) (bvs keyZ) rfl rfl h2.p (by rw [bvs_length]; exact keyZ_length) (by rw [bvs_length]; simp [keyZ]) (bvs_one _) ?_; intro w1 hb1 hg1 hs1))
    (try simp only [Exit.inBlock, Exit.then])
    rw [splice_keyZ _ keyZ_length] at hb1
    refine bodyPost_ret (ret_cell_tmp rfl at22' _ _ w.heap.size 22 (bvs keyZ) rfl hb1 (by rw [bvs_length]; exact keyZ_length)) rfl ?_
    exact ⟨rfl, h2.b.grown hg1 h2.b.size (by intro k hk; cases hk; omega)⟩

theorem testBit_half (x s : Nat) : ((x.testBit s).toNat : Int) = ((x / 2 ^ s % 2 : Nat) : Int) := by
  rw [Nat.testBit_eq_decide_div_mod_eq]
  have : x / 2 ^ s % 2 < 2 := Nat.mod_lt _ (by omega)
  by_cases h : x / 2 ^ s % 2 = 1
  · rw [h]; rfl
  · have : x / 2 ^ s % 2 = 0 := by omega
    rw [this]; rfl
set_option maxRecDepth 100000 in
set_option maxHeartbeats 1000000 in
theorem rbit_any (p : List UInt8) (d : Int) (w : World) (hp : p.length = 32) (hd : -9223372036854775808 ≤ d ∧ d ≤ 9223372036854775807) :
    Calls Try.prog 72 #[arr8 p, .int .i64 d] w fun e w' => e = .returned (.int .i64 (bitZ p d)) ∧ Below w.heap.size w w' := by
  have HP := Lib.hid hp; clear hp
  have hB : Below w.heap.size w (w.alloc (.cells (bvs p).toArray 22)) := (Below.refl _ _).alloc (Nat.le_refl _) _
  have hb : Blk (w.alloc (.cells (bvs p).toArray 22)) w.heap.size 22 (bvs p) := Blk.new _ _ _
  unfold arr8
  by_cases h0 : d < 0
  · have e1 : bitZ p d = -1 := by unfold bitZ; rw [if_neg (by omega)]
    rw [e1]; clear e1
    go_enter Try.func72, Try.ntmps72
    go_wp2_with fail
    go_ret
    exact ⟨rfl, hB⟩
  · by_cases h1 : 256 ≤ d
    · have e1 : bitZ p d = -1 := by unfold bitZ; rw [if_neg (by omega)]
      rw [e1]; clear e1
      go_enter Try.func72, Try.ntmps72
      go_wp2_with fail
      go_ret
      exact ⟨rfl, hB⟩
    · obtain ⟨n, rfl⟩ := Int.eq_ofNat_of_zero_le (show 0 ≤ d by omega)
      have hn : n < 256 := by omega
      obtain ⟨x, hx⟩ : ∃ x, x = (p.getD (n / 8) 0).toNat := ⟨_, rfl⟩
      have hx8 : x < 256 := by rw [hx]; exact UInt8.toNat_lt _
      obtain ⟨s, hs⟩ : ∃ s, s = 7 - n % 8 := ⟨_, rfl⟩
      have e1 : bitZ p n = ((x / 2 ^ s % 2 : Nat) : Int) := by rw [bitZ_eq _ _ hn, ← testBit_half]; unfold tb; rw [← hx, ← hs]
      rw [e1]; clear e1
      have hc : (w.alloc (.cells (bvs p).toArray 22)).cell? ⟨w.heap.size, n / 8, none⟩ = some (.int .u8 (x : Int)) := by rw [hx]; exact key_cell hb HP.out _ (by omega)
      obtain ⟨m, hm⟩ : ∃ m, m = n / 8 := ⟨_, rfl⟩
      have k2 : IntKind.i64.wrap ((n : Int) / 8) = (m : Int) := by rw [IntWalk.i64_in _ (by omega)]; omega
      have k2' : (n : Int) / 8 = (m : Int) := by omega
      have k3 : (m : Int) < 32 := by omega
      have k3' : m < 32 := by omega
      have k4 : 7 - (n : Int) % 8 = (s : Int) := by omega
      have k5 : 7 - (n : Int).tmod 8 = (s : Int) := by rw [Int.tmod_eq_emod_of_nonneg (by omega)]; omega
      have hs7 : s ≤ 7 := by omega
      rw [← hm] at hc
      have HX := Lib.hid hx
      have HS := Lib.hid hs
      have HM := Lib.hid hm
      clear hx hs hm h0 h1 hd
      go_enter Try.func72, Try.ntmps72
      go_wp2_with fail
      go_loopw [5, 6] (fun v i wr => ∃ k : Nat, k ≤ s ∧ i = .int .i64 (k : Int) ∧ v = .int .i64 ((x / 2 ^ k : Nat) : Int) ∧ Below w.heap.size w wr) (fun _ i _ => s - (intOf i).toNat)
      case atStart => exact ⟨0, by omega, by go_num, by simp, hB⟩
      case round =>
        obtain ⟨k, hk, rfl, rfl, hw⟩ := hrel
        have hv8 : x / 2 ^ k < 256 := Nat.lt_of_le_of_lt (Nat.div_le_self _ _) hx8
        have hnx := Lib.hid (show x / 2 ^ k / 2 = x / 2 ^ (k + 1) by rw [Nat.div_div_eq_div_mul, ← Nat.pow_succ])
        by_cases hlt : k < s
        · generalize x / 2 ^ k = v at *
          obtain ⟨v2, hv2⟩ : ∃ v2, v2 = v / 2 := ⟨_, rfl⟩
          have q1 : (v : Int) / 2 = (v2 : Int) := by omega
          have q2 : IntKind.i64.wrap (v2 : Int) = (v2 : Int) := IntWalk.i64_in _ (by omega)
          rw [← hv2] at hnx
          have hks : (k : Int) < (s : Int) := by omega
          clear hv2
          go_wp2_with fail
          go_roundw
          case rel => exact ⟨k + 1, by omega, by go_num, by rw [hnx.out], hw⟩
          case measure => simp only [intOf]; omega
        · obtain rfl : k = s := by omega
          generalize hv : x / 2 ^ k = v at *
          have HV := Lib.hid hv
          clear hv
          have q3 : Hid (((v % 2 : Nat) : Int) = (v : Int) % 2) := by show _ = _; omega
          have q4 : (v : Int).tmod 2 = (v : Int) % 2 := Int.tmod_eq_emod_of_nonneg (by omega)
          go_wp2_with fail
          go_ret
          exact ⟨ret_i (by rw [HV.out]; omega), hw⟩
end Go.Proofs.Ytehbahobkgoapaa
