/- Contracts of path's functions. -/
import Derived.Test.YtehbahobkgoapaaLs
import Derived.Test.YtehbahobkgoapaaPn
import Derived.Test.YtehbahobkgoapaaMi
import Derived.Test.YtehbahobkgoapaaEq
namespace Go.Proofs.Ytehbahobkgoapaa
open Go Go.RowKit
set_option linter.unusedSimpArgs false
set_option linter.unusedVariables false

theorem at23' : AT Try.prog 23 32 := ⟨⟨_, Try.underlying23, rfl⟩, by kernel_rfl⟩
theorem ab23 : AB Try.prog 23 32 := ⟨⟨5, Try.underlying23, Try.underlying5, by kernel_rfl⟩, by kernel_rfl⟩

/-- The place of the mask. -/
theorem mask_any (d : Int) (w : World) (h0 : 0 ≤ d) (h1 : d ≤ 255) :
    Calls Try.prog 129 #[.int .i64 d] w fun e w' => e = .returned (.int .u8 (128 / 2 ^ (d % 8).toNat)) ∧ w = w' := by
  go_enter Try.func129, Try.ntmps129
  go_wp2_with fail
  go_ret
  exact ⟨rfl, rfl⟩

theorem and_mask : ∀ x, x < 256 → ∀ k, k < 8 → (x &&& (128 / 2 ^ k) = if x.testBit (7 - k) then 128 / 2 ^ k else 0) := by decide +kernel

theorem bit_cond (x : UInt8) (n : Nat) : (bits .and .u8 (x.toNat : Int) (128 / 2 ^ ((n : Int) % 8).toNat) != 0) = x.toNat.testBit (7 - n % 8) := by
  have e1 : ((n : Int) % 8).toNat = n % 8 := by omega
  have e2 : (128 : Int) / 2 ^ (n % 8) = ((128 / 2 ^ (n % 8) : Nat) : Int) := by simp
  have e3 : 128 / 2 ^ (n % 8) < 256 := Nat.lt_of_le_of_lt (Nat.div_le_self _ _) (by omega)
  rw [e1, e2, u8_and_nat _ _ x.toNat_lt e3, and_mask _ x.toNat_lt _ (by omega)]
  have e4 : 0 < 128 / 2 ^ (n % 8) := Nat.div_pos (by
    have : 2 ^ (n % 8) ≤ 2 ^ 7 := Nat.pow_le_pow_right (by omega) (by omega)
    omega) (Nat.pow_pos (by omega))
  split
  · rename_i h
    rw [h]
    simp
    omega
  · rename_i h
    simp at h
    rw [h]
    rfl

set_option maxRecDepth 100000 in
theorem bit_any (p : List UInt8) (d : Int) (w : World) (hp : p.length = 32) (hd : -9223372036854775808 ≤ d ∧ d ≤ 9223372036854775807) :
    Calls Try.prog 57 #[arr8 p, .int .i64 d] w fun e w' => e = .returned (.int .i64 (bitZ p d)) ∧ Below w.heap.size w w' := by
  have HP := Lib.hid hp; clear hp
  have hB : Below w.heap.size w (w.alloc (.cells (bvs p).toArray 23)) := (Below.refl _ _).alloc (Nat.le_refl _) _
  have hb : Blk (w.alloc (.cells (bvs p).toArray 23)) w.heap.size 23 (bvs p) := Blk.new _ _ _
  unfold arr8
  by_cases h0 : d < 0
  · have e1 : bitZ p d = -1 := by unfold bitZ; rw [if_neg (by omega)]
    rw [e1]; clear e1
    go_enter Try.func57, Try.ntmps57
    go_wp2_with fail
    go_ret
    exact ⟨rfl, hB⟩
  · by_cases h1 : 256 ≤ d
    · have e1 : bitZ p d = -1 := by unfold bitZ; rw [if_neg (by omega)]
      rw [e1]; clear e1
      go_enter Try.func57, Try.ntmps57
      go_wp2_with fail
      go_ret
      exact ⟨rfl, hB⟩
    · obtain ⟨n, rfl⟩ := Int.eq_ofNat_of_zero_le (show 0 ≤ d by omega)
      have hn : n < 256 := by omega
      obtain ⟨x, hx⟩ : ∃ x, p[n / 8]? = some x := ⟨_, List.getElem?_eq_getElem (by have := HP.out; omega)⟩
      have hxd : p.getD (n / 8) 0 = x := by rw [List.getD_eq_getElem?_getD, hx]; rfl
      have e1 : bitZ p n = ((x.toNat.testBit (7 - n % 8)).toNat : Int) := by unfold bitZ; rw [if_pos (by omega)]; unfold tb; rw [Int.toNat_natCast, hxd]
      rw [e1]; clear e1
      go_enter Try.func57, Try.ntmps57
      go_wp2_with fail
      generalize hW : w.alloc (.cells (bvs p).toArray 23) = w0 at *
      have hc : w0.cell? ⟨w.heap.size, n / 8, none⟩ = some (.int .u8 (x.toNat : Int)) := by rw [hb.cell, bvs_get, hx]; rfl
      have hlt := hb.lt
      obtain ⟨m, hmm⟩ : ∃ m, m = n / 8 := ⟨_, rfl⟩
      have k2 : IntKind.i64.wrap ((n : Int) / 8) = (m : Int) := by rw [IntWalk.i64_in _ (by omega)]; omega
      have k3 : (m : Int) < 32 := by omega
      rw [← hmm] at hc hx hxd
      have HM := Lib.hid hmm; clear hmm
      refine rg_begin (Below w0.heap.size w0) [] [5] [0, 1, 2, 3, 4, 5, 6, 7, 8] 0 mixed (by kernel_rfl) (fun _ _ _ _ e hh => ⟨e.symm.trans hh.1, hh.2⟩) ?_
      simp only [pick, List.map_cons, List.map_nil, List.getD_cons_zero, List.getD_cons_succ]
      have hS : (Below w0.heap.size w0) _ := (Below.refl _ _).drew
      refine rg_take (v := ?v1_0) rfl rfl hS ?y1_0 ?_
      case y1_0 => intro W hW; (try subst hW); go_simp; try with_reducible rfl
      simp only [Act.put, List.setIfInBounds_toArray, List.set_cons_zero, List.set_cons_succ]
      refine rg_take (v := ?v1_1) rfl rfl hS ?y1_1 ?_
      case y1_1 => intro W hW; (try subst hW); go_simp; try with_reducible rfl
      simp only [Act.put, List.setIfInBounds_toArray, List.set_cons_zero, List.set_cons_succ]
      refine rg_take (v := ?v1_2) rfl rfl hS ?y1_2 ?_
      case y1_2 => intro W hW; (try subst hW); go_simp; try with_reducible rfl
      simp only [Act.put, List.setIfInBounds_toArray, List.set_cons_zero, List.set_cons_succ]
      refine rg_take (v := ?v1_3) rfl rfl hS ?y1_3 ?_
      case y1_3 => intro W hW; have hcw := (Below.cell hW (World.block_lt_of_cell? _ _ hc)).trans hc; go_simp; try with_reducible rfl
      simp only [Act.put, List.setIfInBounds_toArray, List.set_cons_zero, List.set_cons_succ]
      refine rg_take (v := ?v1_4) rfl rfl hS ?y1_4 ?_
      case y1_4 => intro W hW; (try subst hW); go_simp; try with_reducible rfl
      simp only [Act.put, List.setIfInBounds_toArray, List.set_cons_zero, List.set_cons_succ]
      refine rg_one rfl rfl ?_; intro K hK; go_simp
      refine (mask_any n _ (by omega) (by omega)).mono ?_
      rintro e w1 ⟨rfl, rfl⟩
      refine hK _ _ (fun _ => hS) ?_; clear hK
      refine rg_take (v := ?v1_6) rfl rfl hS ?y1_6 ?_
      case y1_6 => intro W hW; (try subst hW); go_simp; try with_reducible rfl
      simp only [Act.put, List.setIfInBounds_toArray, List.set_cons_zero, List.set_cons_succ]
      refine rg_take (v := ?v1_7) rfl rfl hS ?y1_7 ?_
      case y1_7 => intro W hW; (try subst hW); go_simp; try with_reducible rfl
      simp only [Act.put, List.setIfInBounds_toArray, List.set_cons_zero, List.set_cons_succ]
      refine rg_take (v := ?v1_8) rfl rfl hS ?y1_8 ?_
      case y1_8 => intro W hW; (try subst hW); go_simp; try with_reducible rfl
      simp only [Act.put, List.setIfInBounds_toArray, List.set_cons_zero, List.set_cons_succ]
      refine rg_done (by kernel_rfl) ?_
      go_wp2_with fail
      all_goals
        go_ret
        refine ⟨ret_i ?_, hB.trans (hS.mono hB.size)⟩
        rename_i hh
        rw [bit_cond] at hh
        rw [hh]
        rfl

/-- Two keys in boxes. -/
structure Two (w w0 : World) (t : TypeId) (p q : List UInt8) : Prop where
  b : Below w.heap.size w w0
  p : Blk w0 w.heap.size t (bvs p)
  q : Blk w0 (w.heap.size + 1) t (bvs q)
theorem Two.mk' (w : World) (t : TypeId) (p q : List UInt8) : Two w ((w.alloc (.cells (bvs p).toArray t)).alloc (.cells (bvs q).toArray t)) t p q :=
  ⟨((Below.refl _ _).alloc (Nat.le_refl _) _).alloc (by simp) _, (Blk.new _ _ _).alloc _, by
    have := Blk.new (w.alloc (.cells (bvs p).toArray t)) t (bvs q)
    simpa using this⟩
theorem key_cell {w : World} {g t : Nat} {p : List UInt8} (hb : Blk w g t (bvs p)) (hp : p.length = 32) (k : Nat) (hk : k < 32) : w.cell? ⟨g, k, none⟩ = some (.int .u8 ((p.getD k 0).toNat : Int)) := by
  rw [hb.cell, bvs_get, List.getElem?_eq_getElem (by omega), List.getD_eq_getElem?_getD, List.getElem?_eq_getElem (by omega)]
  rfl

set_option maxRecDepth 100000 in
theorem compare_any (p q : List UInt8) (w : World) (hp : p.length = 32) (hq : q.length = 32) :
    Calls Try.prog 56 #[arr8 p, arr8 q] w fun e w' => e = .returned (.int .i64 (cmpZ (nOf p) (nOf q))) ∧ Below w.heap.size w w' := by
  rw [← compare_nOf p q (by omega)]
  have HP := Lib.hid hp
  have HQ := Lib.hid hq
  clear hp hq
  unfold arr8
  go_enter Try.func56, Try.ntmps56
  go_wp2_with fail
  have h2 := Two.mk' w 23 p q
  generalize hW : (w.alloc (.cells (bvs p).toArray 23)).alloc (.cells (bvs q).toArray 23) = w0 at *
  clear hW
  refine rg_begin (Below w0.heap.size w0) [] [2] [0, 1, 2, 3] 0 mixed (by kernel_rfl) (fun _ _ _ _ e hh => ⟨e.symm.trans hh.1, hh.2⟩) ?_
  simp only [pick, List.map_cons, List.map_nil, List.getD_cons_zero, List.getD_cons_succ]
  have hS : (Below w0.heap.size w0) _ := (Below.refl _ _).drew
  refine rg_take (v := ?v2_0) rfl rfl hS ?y2_0 ?_
  case y2_0 => intro W hW; (try subst hW); go_simp; try with_reducible rfl
  simp only [Act.put, List.setIfInBounds_toArray, List.set_cons_zero, List.set_cons_succ]
  refine rg_take (v := ?v2_1) rfl rfl hS ?y2_1 ?_
  case y2_1 => intro W hW; (try subst hW); go_simp; try with_reducible rfl
  simp only [Act.put, List.setIfInBounds_toArray, List.set_cons_zero, List.set_cons_succ]
  refine rg_one rfl rfl ?_; intro K hK; go_simp
  refine (octet_compare (some ⟨w.heap.size, 0, none⟩) 32 32 p (some ⟨w.heap.size + 1, 0, none⟩) 32 32 q _ (Rd.below (Rd.of_blk0 (es := []) (by simpa using h2.p)) hS) HP.out (Rd.below (Rd.of_blk0 (es := []) (by simpa using h2.q)) hS) HQ.out).mono ?_
  rintro e w1 ⟨rfl, rfl⟩
  refine hK _ _ (fun _ => hS) ?_; clear hK
  refine rg_take (v := ?v2_3) rfl rfl hS ?y2_3 ?_
  case y2_3 => intro W hW; (try subst hW); go_simp; try with_reducible rfl
  simp only [Act.put, List.setIfInBounds_toArray, List.set_cons_zero, List.set_cons_succ]
  refine rg_done (by kernel_rfl) ?_
  go_wp2_with fail
  go_ret
  exact ⟨rfl, h2.b.trans (hS.mono h2.b.size)⟩

set_option maxRecDepth 100000 in
theorem bytes_any (p : List UInt8) (w : World) (hp : p.length = 32) :
    Calls Try.prog 54 #[arr8 p] w fun e w' => ∃ v, e = .returned v ∧ OwnB w' w.heap.size 5 v p ∧ Below w.heap.size w w' := by
  have HP := Lib.hid hp; clear hp
  have hB : Below w.heap.size w (w.alloc (.cells (bvs p).toArray 23)) := (Below.refl _ _).alloc (Nat.le_refl _) _
  have hb : Blk (w.alloc (.cells (bvs p).toArray 23)) w.heap.size 23 (bvs p) := Blk.new _ _ _
  unfold arr8
  go_enter Try.func54, Try.ntmps54
  have hr : Rd ((w.alloc (.cells (bvs p).toArray 23)).alloc (.cells #[] 5)) (some ⟨w.heap.size, 0, none⟩) (bvs p) := (Rd.of_blk0 (es := []) (by simpa using hb)).alloc _
  have ho : OwnB ((w.alloc (.cells (bvs p).toArray 23)).alloc (.cells #[] 5)) w.heap.size 5 (.slice (some ⟨w.heap.size + 1, 0, none⟩) 0 0) [] :=
    .inr ⟨w.heap.size + 1, [], rfl, by omega, by simp, by simpa [bvs] using Blk.new (w.alloc (.cells (bvs p).toArray 23)) 5 []⟩
  have hB1 : Below w.heap.size w ((w.alloc (.cells (bvs p).toArray 23)).alloc (.cells #[] 5)) := hB.alloc (by simp) _
  go_wp2_with ((with_reducible refine at_dst 5 ?_); refine wpList_append_bytes bt rfl (.tmp 3) (.tmp 4) rfl w.heap.size _ [] rfl ho _ 32 32 p rfl HP.out hr (by simp) hB1.size ?_; intro v1 w1 ho1 hg1 _)
  go_ret
  exact ⟨v1, rfl, by simpa using ho1, hB1.grown hg1 hB1.size (fun g hg => (ho.lt g hg).1)⟩

def keyZ : List UInt8 := List.replicate 32 0
theorem keyZ_length : keyZ.length = 32 := by simp [keyZ]
set_option maxRecDepth 100000 in
theorem of_any (A : Option Addr) (n c : Nat) (l : List UInt8) (w : World) (hr : Rd w A (bvs l)) (hl : l.length = n) (hn : n ≤ 140737488351232) (hc : n ≤ c) :
    Calls Try.prog 55 #[.slice A n c] w fun e w' => e = .returned (.tuple #[arr8 (if l.length = 32 then l else keyZ), .int .i64 (if l.length = 32 then 0 else 3)]) ∧ Below w.heap.size w w' := by
  have HL := Lib.hid hl
  have hz : Blk (w.alloc (.cells (bvs keyZ).toArray 23)) w.heap.size 23 (bvs keyZ) := Blk.new _ _ _
  have hB : Below w.heap.size w (w.alloc (.cells (bvs keyZ).toArray 23)) := (Below.refl _ _).alloc (Nat.le_refl _) _
  by_cases h32 : n = 32
  · subst h32
    rw [if_pos hl, if_pos hl]
    clear hl
    have hr1 := hr
    obtain ⟨ad, rfl, hcc⟩ := hr1 (by rw [bvs_length, HL.out]; omega)
    unfold arr8
    go_enter Try.func55, Try.ntmps55
    go_wp2_with (first
      | ((with_reducible refine at_dst 9 ?_); refine wpList_yield rfl _ (exec_array_at Try.underlying23 (.tmp 8) rfl _ 32 c rfl (Nat.le_refl _)) ?_)
      | ((with_reducible refine at_dst 10 ?_); refine wpList_yield rfl _ (exec_load_rd at23' (.tmp 9) rfl ad (bvs l) rfl (hr.alloc _) (by omega) (by rw [bvs_length]; exact HL.out)) ?_)
      | ((with_reducible refine at_op (Op.store 23 (.tmp 2) (.tmp 10)) ?_)
         refine wpList_store_at at23'.i rfl (.tmp 2) (.tmp 10) rfl w.heap.size 0 23 (bvs keyZ) (bvs l) rfl rfl hz (by rw [bvs_length]; exact HL.out) (by rw [bvs_length]; simp [keyZ]) (bvs_one _) ?_
         intro w1 hb1 hg1 hs1))
    (try simp only [Exit.inBlock, Exit.then])
    have e1 : splice (bvs keyZ) 0 (bvs l) = bvs l := by
      unfold splice
      rw [List.drop_eq_nil_of_le (by rw [bvs_length, bvs_length, keyZ_length, HL.out]; omega)]
      simp
    rw [e1] at hb1
    refine bodyPost_ret (ret_cell_tmp rfl at23' _ _ w.heap.size 23 (bvs l) rfl hb1 (by rw [bvs_length]; exact HL.out)) rfl ?_
    exact ⟨rfl, hB.grown hg1 (Nat.le_of_lt hz.lt) (by intro k hk; cases hk; exact Nat.le_refl _)⟩
  · rw [if_neg (by omega), if_neg (by omega)]
    clear hl
    unfold arr8
    go_enter Try.func55, Try.ntmps55
    go_wp2_with (first
      | ((with_reducible refine at_op (Op.store 23 (.tmp 2) (.tmp 7)) ?_)
         refine wpList_store_at at23'.i rfl (.tmp 2) (.tmp 7) rfl w.heap.size 0 23 (bvs keyZ) (bvs keyZ) rfl rfl hz (by rw [bvs_length]; exact keyZ_length) (by rw [bvs_length]; simp [keyZ]) (bvs_one _) ?_
         intro w1 hb1 hg1 hs1))
    (try simp only [Exit.inBlock, Exit.then])
    have e1 : splice (bvs keyZ) 0 (bvs keyZ) = bvs keyZ := by
      unfold splice
      rw [List.drop_eq_nil_of_le (by omega)]
      simp
    rw [e1] at hb1
    refine bodyPost_ret (ret_cell_tmp rfl at23' _ _ w.heap.size 23 (bvs keyZ) rfl hb1 (by rw [bvs_length]; exact keyZ_length)) rfl ?_
    exact ⟨rfl, hB.grown hg1 (Nat.le_of_lt hz.lt) (by intro k hk; cases hk; exact Nat.le_refl _)⟩
end Go.Proofs.Ytehbahobkgoapaa
