/- Words of 32 bits: turning. -/
import Derived.Test.YtehbahobkgoapaaSh
import Derived.Test.YtehbahobkgoapaaMi
import Derived.Laws.BitsAllLaws
namespace Go.Proofs.Ytehbahobkgoapaa
open Go Go.RowKit
set_option linter.unusedSimpArgs false
set_option linter.unusedVariables false

theorem u32_wrap_shl (x s : Nat) : IntKind.u32.wrap ((x : Int) * 2 ^ s) = ((x * 2 ^ s % 4294967296 : Nat) : Int) := by
  rw [IntKind.wrap_u32']
  have : ((2 ^ s : Nat) : Int) = (2 : Int) ^ s := by simp
  rw [← this]
  omega
theorem int_div_pow (x s : Nat) : (x : Int) / 2 ^ s = ((x / 2 ^ s : Nat) : Int) := by
  have : ((2 ^ s : Nat) : Int) = (2 : Int) ^ s := by simp
  rw [← this]
  omega
theorem rotr_int (x s : Nat) (hx : x < 4294967296) (hs : s ≤ 32) :
    bits .or .u32 (IntKind.u32.wrap ((x : Int) * 2 ^ s)) ((x : Int) / 2 ^ (32 - s)) = ((rotr x (32 - s) : Nat) : Int) := by
  rw [u32_wrap_shl, int_div_pow, u32_or_nat _ _ (Nat.mod_lt _ (by omega)) (Nat.lt_of_le_of_lt (Nat.div_le_self _ _) hx)]
  unfold rotr
  rw [Nat.or_comm, show 32 - (32 - s) = s by omega]
  rfl
theorem rotr_int' (x n : Nat) (hx : x < 4294967296) (hs : n ≤ 32) :
    bits .or .u32 ((x : Int) / 2 ^ n) (IntKind.u32.wrap ((x : Int) * 2 ^ (32 - n))) = ((rotr x n : Nat) : Int) := by
  rw [u32_wrap_shl, int_div_pow, u32_or_nat _ _ (Nat.lt_of_le_of_lt (Nat.div_le_self _ _) hx) (Nat.mod_lt _ (by omega))]
  rfl

set_option maxRecDepth 100000 in
set_option maxHeartbeats 1000000 in
theorem rotl_any (x s : Nat) (k : Int) (w : World) (hx : x < 4294967296) (hb : bits .and .u64 (IntKind.u64.wrap k) 31 = (s : Int)) (hs : s ≤ 32) :
    Calls Try.prog 160 #[.int .u32 (x : Int), .int .i64 k] w fun e w' => e = .returned (.int .u32 ((rotr x (32 - s) : Nat) : Int)) ∧ w = w' := by
  have h0 : (0 : Int) ≤ (s : Int) := by omega
  have h1 : (s : Int) ≤ 32 := by omega
  have h2 : IntKind.u64.wrap (32 - (s : Int)) = 32 - (s : Int) := by
    rw [show (32 : Int) - s = ((32 - s : Nat) : Int) by omega]
    simp [IntKind.wrap, IntKind.bits, IntKind.signed]
    omega
  have h3 : (0 : Int) ≤ 32 - (s : Int) := by omega
  have h4 : 32 - (s : Int) ≤ 32 := by omega
  have h5 : ((32 : Int) - (s : Int)).toNat = 32 - s := by omega
  have HH := Lib.hid hx; clear hx hs
  go_enter Try.func160, Try.ntmps160
  go_wp2_with fail
  go_ret
  refine ⟨?_, rfl⟩
  have e := rotr_int x s HH.out (by omega)
  simpa [h5, IntKind.wrap_u32'] using e

set_option maxRecDepth 100000 in
set_option maxHeartbeats 1000000 in
theorem right_any (x s m : Nat) (n : Int) (w : World) (hx : x < 4294967296) (hb : bits .and .u64 (IntKind.u64.wrap (wrap64 (-n))) 31 = (s : Int)) (hs : s ≤ 32) (hm : 32 - s = m) :
    Calls Try.prog 137 #[.int .u32 (x : Int), .int .i64 n] w fun e w' => e = .returned (.int .u32 ((rotr x m : Nat) : Int)) ∧ w = w' := by
  subst hm
  have C := fun u => Lib.hid (rotl_any x s (wrap64 (-n)) u hx hb hs); clear hx hb
  go_enter Try.func137, Try.ntmps137
  go_wp2_with fail
  with_reducible refine (C _).out.mono ?_
  rintro e w1 ⟨rfl, rfl⟩
  go_wp2_with fail
  go_ret
  exact ⟨rfl, rfl⟩

set_option maxRecDepth 100000 in
set_option maxHeartbeats 1000000 in
theorem turned_any (x n : Nat) (w : World) (hx : x < 4294967296) (hn : n ≤ 32) :
    Calls Try.prog 140 #[.int .u32 (x : Int), .int .i64 (n : Int)] w fun e w' => e = .returned (.int .u32 ((rotr x n : Nat) : Int)) ∧ w' = w.drew := by
  have h0 : (0 : Int) ≤ (n : Int) := by omega
  have h1 : (n : Int) ≤ 32 := by omega
  have h2 : IntKind.i64.wrap (32 - (n : Int)) = 32 - (n : Int) := IntWalk.i64_in _ (by omega)
  have h3 : (0 : Int) ≤ 32 - (n : Int) := by omega
  have h4 : 32 - (n : Int) ≤ 32 := by omega
  have h5 : ((32 : Int) - (n : Int)).toNat = 32 - n := by omega
  have HH := Lib.hid hx; clear hx hn
  go_enter Try.func140, Try.ntmps140
  go_wp2_with fail
  refine rg_begin (fun W => W = w.drew) [] [] [0, 1, 2, 3, 4, 5, 6, 7, 8] 0 mixed (by kernel_rfl) (fun _ _ _ _ e hh => ⟨e.symm.trans hh.1, hh.2⟩) ?_
  simp only [pick, List.map_cons, List.map_nil, List.getD_cons_zero, List.getD_cons_succ]
  have hS : (fun W => W = w.drew) _ := rfl
  refine rg_take (v := ?v1_0) rfl rfl hS ?y1_0 ?_
  case y1_0 => intro W hW; (try subst hW); go_simp; try with_reducible rfl
  simp only [Act.put, List.setIfInBounds_toArray, List.set_cons_zero, List.set_cons_succ]
  refine rg_take (v := ?v1_1) rfl rfl hS ?y1_1 ?_
  case y1_1 => intro W hW; (try subst hW); go_simp; try with_reducible rfl
  simp only [Act.put, List.setIfInBounds_toArray, List.set_cons_zero, List.set_cons_succ]
  refine rg_take (v := ?v1_2) rfl rfl hS ?y1_2 ?_
  case y1_2 => intro W hW; (try subst hW); go_simp; try with_reducible rfl
  simp only [Act.put, List.setIfInBounds_toArray, List.set_cons_zero, List.set_cons_succ]
  refine rg_take (v := ?v1_3) rfl rfl hS ?y1_3 ?_
  case y1_3 => intro W hW; (try subst hW); go_simp; try with_reducible rfl
  simp only [Act.put, List.setIfInBounds_toArray, List.set_cons_zero, List.set_cons_succ]
  refine rg_take (v := ?v1_4) rfl rfl hS ?y1_4 ?_
  case y1_4 => intro W hW; (try subst hW); go_simp; try with_reducible rfl
  simp only [Act.put, List.setIfInBounds_toArray, List.set_cons_zero, List.set_cons_succ]
  refine rg_take (v := ?v1_5) rfl rfl hS ?y1_5 ?_
  case y1_5 => intro W hW; (try subst hW); go_simp; try with_reducible rfl
  simp only [Act.put, List.setIfInBounds_toArray, List.set_cons_zero, List.set_cons_succ]
  refine rg_take (v := ?v1_6) rfl rfl hS ?y1_6 ?_
  case y1_6 => intro W hW; (try subst hW); go_simp; try with_reducible rfl
  simp only [Act.put, List.setIfInBounds_toArray, List.set_cons_zero, List.set_cons_succ]
  refine rg_take (v := ?v1_7) rfl rfl hS ?y1_7 ?_
  case y1_7 => intro W hW; (try subst hW); go_simp; try with_reducible rfl
  simp only [Act.put, List.setIfInBounds_toArray, List.set_cons_zero, List.set_cons_succ]
  refine rg_take (v := ?v1_8) rfl rfl hS ?y1_8 ?_
  case y1_8 => intro W hW; (try subst hW); go_simp; try with_reducible rfl
  simp only [Act.put, List.setIfInBounds_toArray, List.set_cons_zero, List.set_cons_succ]
  refine rg_done (by kernel_rfl) ?_
  go_wp2_with fail
  go_ret
  refine ⟨?_, rfl⟩
  have e := rotr_int' x n HH.out (by omega)
  simpa [h5, IntKind.wrap_u32'] using e
end Go.Proofs.Ytehbahobkgoapaa
