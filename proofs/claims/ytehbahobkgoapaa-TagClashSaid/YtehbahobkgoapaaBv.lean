/- The walk of OctetBack: it says true for every bytes, text, sizes and numbers. -/
import Derived.Test.YtehbahobkgoapaaBk
import Derived.Test.YtehbahobkgoapaaHx
import Derived.Test.YtehbahobkgoapaaRa
import Derived.Test.YtehbahobkgoapaaRw
import Derived.Deep.Cut
import Derived.Deep.CutRange
namespace Go.Proofs.Ytehbahobkgoapaa
open Go Go.RowKit
set_option linter.unusedSimpArgs false
set_option linter.unusedVariables false

def intC (zs : List Int) : List Value := zs.map fun z => .int .i64 z
theorem intC_get (zs : List Int) (k : Nat) (h : k < zs.length) : (intC zs)[k]? = some (.int .i64 zs[k]) := by
  unfold intC
  rw [List.getElem?_map, List.getElem?_eq_getElem h]
  rfl
theorem Fr.cell {S : Nat → Prop} {a b : World} {p : Addr} {u : Value} (h : Fr S a b) (hc : a.cell? p = some u) (hp : ¬ S p.block) : b.cell? p = some u := by
  have hlt := World.block_lt_of_cell? a _ hc
  rw [World.cell?_of_block (h.block _ hlt hp)]
  exact hc
theorem addr_block (ad : Addr) (k : Nat) : (ad.add k).block = ad.block := by unfold Addr.add; split <;> rfl
theorem takeL_in (l : List UInt8) (k : Nat) (h : k ≤ l.length) : takeL (some l) k = l.take k := by
  simp only [takeL]; rw [if_pos (by omega), Int.toNat_natCast]
theorem takeS_in (l : List UInt8) (k : Nat) (h : k ≤ l.length) : takeS (some l) k = some (l.drop k) := by
  simp only [takeS]; rw [if_pos (by omega), Int.toNat_natCast]

theorem put16_ok (U : Nat) (h : U ≤ 65535) (w : World) : Calls Try.prog 36 #[.int .i64 (U : Int)] w fun e w' => ∃ v, e = .returned (.tuple #[v, .int .i64 0]) ∧ OwnB w' w.heap.size 5 v (be 2 U) ∧ Below w.heap.size w w' := by
  have := put16 (U : Int) w (by omega)
  have e1 : putE 65535 (U : Int) = 0 := by unfold putE; rw [if_pos (by omega)]
  have e2 : putL 2 65535 (U : Int) = be 2 U := by unfold putL; rw [if_pos (by omega), Int.toNat_natCast]
  rwa [e1, e2] at this
theorem put32_ok (U : Nat) (h : U ≤ 4294967295) (w : World) : Calls Try.prog 37 #[.int .i64 (U : Int)] w fun e w' => ∃ v, e = .returned (.tuple #[v, .int .i64 0]) ∧ OwnB w' w.heap.size 5 v (be 4 U) ∧ Below w.heap.size w w' := by
  have := put32 (U : Int) w (by omega)
  have e1 : putE 4294967295 (U : Int) = 0 := by unfold putE; rw [if_pos (by omega)]
  have e2 : putL 4 4294967295 (U : Int) = be 4 U := by unfold putL; rw [if_pos (by omega), Int.toNat_natCast]
  rwa [e1, e2] at this
theorem numL_two (U : Nat) (b : List UInt8) (h : U ≤ 65535) : numL (some (be 2 U ++ b)) 2 = U ∧ takeS (some (be 2 U ++ b)) (2 : Nat) = some b := by
  have hl := be_length 2 U
  unfold numL
  rw [takeL_in _ 2 (by simp [hl]), takeS_in _ 2 (by simp [hl]), List.take_left' hl, List.drop_left' hl, nOf_be]
  exact ⟨Nat.mod_eq_of_lt (by omega), rfl⟩
theorem numL_four (V : Nat) (h : V ≤ 4294967295) : numL (some (be 4 V)) 4 = V ∧ takeS (some (be 4 V)) (4 : Nat) = some [] := by
  have hl := be_length 4 V
  unfold numL
  rw [takeL_in _ 4 (by omega), takeS_in _ 4 (by omega), List.take_of_length_le (by omega), List.drop_eq_nil_of_le (by omega), nOf_be]
  exact ⟨Nat.mod_eq_of_lt (by omega), rfl⟩
theorem numL_one : numL (some []) 1 = 0 ∧ takeS (some []) (1 : Nat) = none := by
  constructor
  · rfl
  · rfl

theorem small64 (U : Nat) (h : U ≤ 4294967295) : wrap64 (U : Int) = (U : Int) ∧ IntKind.i64.wrap (U : Int) = (U : Int) := ⟨IntWalk.wrap64_in _ (by omega), IntWalk.i64_in _ (by omega)⟩
end Go.Proofs.Ytehbahobkgoapaa
