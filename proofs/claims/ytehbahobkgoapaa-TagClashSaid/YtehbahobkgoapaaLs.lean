/- Contracts of functions of Go's library: strings.Compare, strings.IndexByte, bits.Len8, bits.LeadingZeros8. (Begun as the shelf's templates, laid for this program.) -/
import Derived.Test.YtehbahobkgoapaaTx
import Derived.Lib.Strings
import Derived.Lib.Slices
import Derived.Lib.Small
import Derived.Lib.Walk
import Derived.Lib.Bytealg
import Derived.Lib.BitFns
namespace Go.Proofs.Ytehbahobkgoapaa
open Go Go.RowKit
set_option linter.unusedSimpArgs false
set_option linter.unusedVariables false

set_option maxHeartbeats 1000000 in
set_option maxRecDepth 100000 in
theorem compare_string (a b : ByteArray) (w : World) :
    Calls Try.prog 159 #[.string a, .string b] w fun e w' => e = .returned (.int .i64 (Lib.compareBytes a.data.toList b.data.toList)) ∧ w' = w := by
  go_enter Try.func159, Try.ntmps159
  go_wp2
  rw [run_callFunc_extern Try.func162 (by kernel_rfl) (by kernel_rfl) (by kernel_rfl) (e := Extern.BytealgCompare.compare) (by kernel_rfl), Lib.run_compareString]
  simp only [Result.andThen]
  rw [Oper.upon_value]
  go_wp2
  go_ret
  exact ⟨rfl, rfl⟩
set_option maxHeartbeats 1000000 in
theorem strings_compare (a b : ByteArray) (w : World) :
    Calls Try.prog 132 #[.string a, .string b] w fun e w' => e = .returned (.int .i64 (Lib.compareBytes a.data.toList b.data.toList)) ∧ w' = w := by
  go_enter Try.func132, Try.ntmps132
  go_wp2_with (go_at_call 159; refine (compare_string _ _ _).mono ?_; rintro e w' ⟨rfl, rfl⟩)
  go_ret
  exact ⟨rfl, rfl⟩
set_option maxHeartbeats 1000000 in
set_option maxRecDepth 100000 in
theorem lite_index (s : ByteArray) (c : Int) (w : World) :
    Calls Try.prog 158 #[.string s, .int .u8 c] w fun e w' => e = .returned (.int .i64 (Lib.indexByte s.data.toList c.toNat.toUInt8)) ∧ w' = w := by
  go_enter Try.func158, Try.ntmps158
  go_wp2
  rw [run_callFunc_extern Try.func161 (by kernel_rfl) (by kernel_rfl) (by kernel_rfl) (e := Extern.BytealgIndexByte.indexByte) (by kernel_rfl), Lib.run_indexByteString]
  simp only [Result.andThen]
  rw [Oper.upon_value]
  go_wp2
  go_ret
  exact ⟨rfl, rfl⟩
set_option maxHeartbeats 1000000 in
theorem strings_index (s : ByteArray) (c : Int) (w : World) :
    Calls Try.prog 130 #[.string s, .int .u8 c] w fun e w' => e = .returned (.int .i64 (Lib.indexByte s.data.toList c.toNat.toUInt8)) ∧ w' = w := by
  go_enter Try.func130, Try.ntmps130
  go_wp2_with (go_at_call 158; refine (lite_index _ _ _).mono ?_; rintro e w' ⟨rfl, rfl⟩)
  go_ret
  exact ⟨rfl, rfl⟩
set_option maxRecDepth 100000 in
theorem bits_len8 (x : Int) (w : World) (h0 : 0 ≤ x) (h1 : x ≤ 255) :
    Calls Try.prog 157 #[.int .u8 x] w fun e w' => e = .returned (.int .i64 (Lib.bitLen x.toNat)) ∧ w' = w := by
  have e : Hid ((Lib.len8 x + 9223372036854775808) % 18446744073709551616 - 9223372036854775808 = (Lib.bitLen x.toNat : Int)) := Lib.len8_int x h0 h1
  go_enter Try.func157, Try.ntmps157
  go_wp2
  go_ret
  have e' : wrap64 (Lib.len8 x) = (Lib.bitLen x.toNat : Int) := by unfold wrap64; exact e.out
  rw [← e']
  exact ⟨rfl, rfl⟩
theorem bits_lead8 (x : Int) (w : World) (h0 : 0 ≤ x) (h1 : x ≤ 255) :
    Calls Try.prog 128 #[.int .u8 x] w fun e w' => e = .returned (.int .i64 (8 - (Lib.bitLen x.toNat : Int))) ∧ w' = w := by
  have l := Lib.bitLen_le8 ⟨x.toNat, by omega⟩
  simp only at l
  go_enter Try.func128, Try.ntmps128
  go_wp2_with (go_at_call 157; refine (bits_len8 x _ h0 h1).mono ?_; rintro e w' ⟨rfl, rfl⟩)
  go_ret
  exact ⟨rfl, rfl⟩

/-- octet.Compare -/
theorem octet_compare (A : Option Addr) (n c : Nat) (l : List UInt8) (B : Option Addr) (m d : Nat) (k : List UInt8) (w : World) (ha : Rd w A (bvs l)) (hl : l.length = n) (hb : Rd w B (bvs k)) (hk : k.length = m) :
   Calls Try.prog 62 #[.slice A n c, .slice B m d] w fun e w' => e = .returned (.int .i64 (Lib.compareBytes l k)) ∧ w = w' := by
  have HL := Lib.hid hl; clear hl
  have HK := Lib.hid hk; clear hk
  go_enter Try.func62, Try.ntmps62
  go_wp2_with (first
    | ((with_reducible refine at_dst 6 ?_); refine wpList_bytes_string bt rfl (.tmp 5) rfl A n c rfl l ha HL.out ?_)
    | ((with_reducible refine at_dst 8 ?_); refine wpList_bytes_string bt rfl (.tmp 7) rfl B m d rfl k hb HK.out ?_)
    | (go_at_call 132; refine (strings_compare _ _ _).mono ?_; rintro e w' ⟨rfl, rfl⟩))
  go_ret
  exact ⟨rfl, rfl⟩
end Go.Proofs.Ytehbahobkgoapaa
