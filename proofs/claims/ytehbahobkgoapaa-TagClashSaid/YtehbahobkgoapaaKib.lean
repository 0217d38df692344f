/- Contracts of the statements' own kit: Pick, OverBytes. -/
import Derived.Test.YtehbahobkgoapaaKit
import Derived.Laws.BitsAllLaws
namespace Go.Proofs.Ytehbahobkgoapaa
open Go Go.RowKit
set_option linter.unusedSimpArgs false
set_option linter.unusedVariables false

/-- A byte slice with all its room: nil, or at the head of a block whose cells are just the bytes L. -/
def Full (w : World) (v : Value) (L : List UInt8) : Prop :=
  (v = .slice none 0 0 ∧ L = []) ∨ ∃ g n, v = .slice (some ⟨g, 0, none⟩) n L.length ∧ n ≤ L.length ∧ L.length ≤ maxLen ∧ Blk w g 5 (bvs L)

theorem OwnB.full {w : World} {base : Nat} {v : Value} {l : List UInt8} (h : OwnB w base 5 v l) : ∃ sp, Full w v (l ++ sp) ∧ (v.ownBlock = none ∨ ∃ g, v.ownBlock = some g ∧ base ≤ g) := by
  rcases h with ⟨rfl, rfl⟩ | ⟨g, sp, rfl, hg, hm, hb⟩
  · exact ⟨[], .inl ⟨rfl, rfl⟩, .inl rfl⟩
  · exact ⟨sp, .inr ⟨g, l.length, by simp, by simp, by simpa using hm, hb⟩, .inr ⟨g, rfl, hg⟩⟩

def flip8 (L : List UInt8) : List UInt8 := L.map (· ^^^ 90)
theorem flip8_flip8 (L : List UInt8) : flip8 (flip8 L) = L := by
  unfold flip8
  rw [List.map_map]
  conv => rhs; rw [← List.map_id L]
  apply List.map_congr_left
  intro x _
  simp [UInt8.xor_assoc]
theorem flip8_length (L : List UInt8) : (flip8 L).length = L.length := by simp [flip8]
def flipTo (L : List UInt8) (k : Nat) : List UInt8 := flip8 (L.take k) ++ L.drop k
theorem flipTo_length (L : List UInt8) (k : Nat) : (flipTo L k).length = L.length := by simp [flipTo, flip8]; omega
theorem flipTo_get (L : List UInt8) (k : Nat) (h : k < L.length) : (flipTo L k)[k]? = some L[k] := by
  unfold flipTo
  rw [List.getElem?_append_right (by simp [flip8]; omega)]
  have : k - (flip8 (List.take k L)).length = 0 := by simp [flip8]; omega
  rw [this, List.getElem?_drop]
  simp [h]
theorem flipTo_succ (L : List UInt8) (k : Nat) (h : k < L.length) : (flipTo L k).set k (L[k] ^^^ 90) = flipTo L (k + 1) := by
  have hl : (flip8 (L.take k)).length = k := by simp [flip8]; omega
  unfold flipTo
  rw [List.set_append, if_neg (by omega), hl, Nat.sub_self, List.drop_eq_getElem_cons h, List.set_cons_zero]
  rw [List.take_succ_eq_append_getElem h]
  simp only [flip8, List.map_append, List.map_cons, List.map_nil, List.append_assoc, List.cons_append, List.nil_append]
theorem bv_xor (x : UInt8) : bv (x ^^^ 90) = .int .u8 (bits .xor .u8 (x.toNat : Int) 90) := by
  unfold bv
  rw [show (90 : Int) = ((90 : Nat) : Int) from rfl, u8_xor_nat _ _ x.toNat_lt (by omega), UInt8.toNat_xor]
  rfl

theorem _root_.Go.World.grownBy.trans' {a b c : World} {row : Option Nat} (h : a.grownBy b row) (k : b.grownBy c row) : a.grownBy c row :=
  ⟨k.os.trans h.os, k.tape.trans h.tape, k.output.trans h.output, Nat.le_trans h.size k.size, fun i hi hs => (k.block i (Nat.lt_of_lt_of_le hi h.size) hs).trans (h.block i hi hs)⟩
theorem grownBy_setCell (w : World) (g i : Nat) (u : Value) : w.grownBy (w.setCell ⟨g, i, none⟩ u) (some g) :=
  ⟨rfl, rfl, rfl, by simp, fun k _ hne => Below.heap_setCell w ⟨g, i, none⟩ u k (fun e => hne (by rw [e]))⟩

set_option maxRecDepth 100000 in
theorem over_bytes (g n : Nat) (L : List UInt8) (w : World) (hb : Blk w g 5 (bvs L)) (hn : n ≤ L.length) (hm : L.length ≤ maxLen) :
   Calls Try.prog 42 #[.slice (some ⟨g, 0, none⟩) n L.length] w fun e w' => e = .returned (.tuple #[]) ∧ Blk w' g 5 (bvs (flip8 L)) ∧ w.grownBy w' (some g) ∧ w'.heap.size = w.heap.size := by
  unfold maxLen at hm
  go_enter Try.func42, Try.ntmps42
  go_wp2_with fail
  go_loopw [3] (fun i wr => ∃ k : Nat, k ≤ L.length ∧ i = .int .i64 (k : Int) ∧ Blk wr g 5 (bvs (flipTo L k)) ∧ w.grownBy wr (some g) ∧ Hid (wr.heap.size = w.heap.size)) (fun i _ => L.length - (intOf i).toNat)
  case atStart => exact ⟨0, by omega, by go_num, by simpa [flipTo, flip8] using hb, World.grownBy.refl _ _, rfl⟩
  case round =>
    obtain ⟨k, hk, rfl, hb, hw, hz⟩ := hrel
    by_cases hlt : k < L.length
    · have hc : wr.cell? ⟨g, k, none⟩ = some (.int .u8 (L[k].toNat : Int)) := by
        rw [hb.cell, bvs_get, flipTo_get L k hlt]; rfl
      have hf := hb.free k
      go_wp2
      go_roundw
      case rel =>
        have h1 := hb.set_ k (bv (L[k] ^^^ 90))
        rw [set_bvs, flipTo_succ L k hlt, bv_xor] at h1
        exact ⟨k + 1, by omega, by go_num, h1, hw.trans' (grownBy_setCell _ _ _ _), by have := hz.out; simpa [Hid] using this⟩
      case measure => simp [intOf]; omega
    · obtain rfl : k = L.length := by omega
      go_wp2
      go_end0
      have e : flipTo L L.length = flip8 L := by simp [flipTo]
      rw [e] at hb
      exact ⟨rfl, hb, hw, hz.out⟩
set_option maxRecDepth 100000 in
theorem over_nil (w : World) : Calls Try.prog 42 #[.slice none 0 0] w fun e w' => e = .returned (.tuple #[]) ∧ w = w' := by
  go_enter Try.func42, Try.ntmps42
  go_wp2_with fail
  go_loopw [3] (fun i wr => i = .int .i64 0 ∧ w = wr) (fun i _ => 0)
  case atStart => exact ⟨rfl, rfl⟩
  case round =>
    obtain ⟨rfl, rfl⟩ := hrel
    go_wp2
    go_end0
    exact ⟨rfl, rfl⟩

theorem ret_i {k : IntKind} {a b : Int} (h : a = b) : Ending.returned (.int k a) = .returned (.int k b) := by rw [h]
theorem ret_b {a b : Bool} (h : a = b) : Ending.returned (.bool a) = .returned (.bool b) := by rw [h]
def pickOf (x n : Int) : Int := x % n
theorem pickOf_bd (x n : Int) (hn : 0 < n) : 0 ≤ pickOf x n ∧ pickOf x n < n := ⟨Int.emod_nonneg _ (by omega), Int.emod_lt_of_pos _ hn⟩
theorem tmod_pick (x n : Int) (hn : 0 < n) : (x.tmod n < 0 → x.tmod n + n = pickOf x n) ∧ (¬ x.tmod n < 0 → x.tmod n = pickOf x n) := by
  unfold pickOf
  have h1 := Int.tmod_eq_emod (a := x) (b := n)
  have h2 := Int.emod_nonneg x (show n ≠ 0 by omega)
  have h3 := Int.emod_lt_of_pos x hn
  rw [h1]
  by_cases hx : 0 ≤ x ∨ n ∣ x
  · simp only [hx, if_true]; constructor <;> intro h <;> omega
  · simp only [hx, if_false, Int.natAbs_of_nonneg (Int.le_of_lt hn)]; constructor <;> intro h <;> omega
theorem pick_any (x n : Int) (w : World) (hn : 0 < n) (hn' : n ≤ 9223372036854775807) (hx : -9223372036854775808 ≤ x ∧ x ≤ 9223372036854775807) :
   Calls Try.prog 64 #[.int .i64 x, .int .i64 n] w fun e w' => e = .returned (.int .i64 (pickOf x n)) ∧ w = w' := by
  have h := Lib.hid (tmod_pick x n hn)
  have hb := Int.tmod_lt_of_pos x hn
  have hb' : -n ≤ x.tmod n := by
    by_cases hh : x.tmod n < 0
    · have h1 := (tmod_pick x n hn).1 hh
      have h2 := (pickOf_bd x n hn).1
      omega
    · omega
  have h0 : (n == 0) = false := by simp; omega
  go_enter Try.func64, Try.ntmps64
  go_wp2
  all_goals go_ret
  · exact ⟨ret_i (h.out.1 (by assumption)), rfl⟩
  · exact ⟨ret_i (h.out.2 (by omega)), rfl⟩
end Go.Proofs.Ytehbahobkgoapaa
