/- The walk of OctetNil: of no reader, and of one that New did not make. -/
import Derived.Test.YtehbahobkgoapaaRf
import Derived.Deep.Cut
import Derived.Deep.CutRange
namespace Go.Proofs.Ytehbahobkgoapaa
open Go Go.RowKit
set_option linter.unusedSimpArgs false
set_option linter.unusedVariables false

/-- No reader, or one that nobody made. -/
def NoR (w : World) (v : Value) : Prop := v = .pointer none ∨ ∃ g, v = .pointer (some ⟨g, 0, none⟩) ∧ Blk w g 59 [.bool false, .bool false, .slice none 0 0]
theorem NoR.below {w w' : World} {v : Value} (h : NoR w v) (hb : Below w.heap.size w w') : NoR w' v := by
  rcases h with h | ⟨g, e, hg⟩
  · exact .inl h
  · exact .inr ⟨g, e, hg.below hb hg.lt⟩

set_option maxRecDepth 100000 in
theorem no_take (v : Value) (k : Int) (w : World) (h : NoR w v) :
    Calls Try.prog 52 #[v, .int .i64 k] w fun e w' => e = .returned (.slice none 0 0) ∧ w = w' := by
  rcases h with rfl | ⟨g, rfl, hg⟩
  · go_enter Try.func52, Try.ntmps52
    go_wp2
    go_ret
    exact ⟨rfl, rfl⟩
  · have hc0 : w.cell? ⟨g, 0, none⟩ = some (.bool false) := by rw [hg.cell]; rfl
    go_enter Try.func52, Try.ntmps52
    go_wp2
    go_ret
    exact ⟨rfl, rfl⟩
set_option maxRecDepth 100000 in
theorem no_number (v : Value) (k : Int) (w : World) (h : NoR w v) :
    Calls Try.prog 127 #[v, .int .i64 k] w fun e w' => e = .returned (.int .i64 0) ∧ w = w' := by
  have HT := Lib.hid (no_take v k w h)
  go_enter Try.func127, Try.ntmps127
  go_wp2_with (go_at_call 52; refine HT.out.mono ?_; rintro e w1 ⟨rfl, rfl⟩)
  go_loopw [5, 12] (fun x i wr => i = .int .i64 0 ∧ x = .int .i64 0 ∧ w = wr) (fun _ i _ => 0)
  case atStart => exact ⟨rfl, rfl, rfl⟩
  case round =>
    obtain ⟨rfl, rfl, rfl⟩ := hrel
    go_wp2
    go_ret
    exact ⟨rfl, rfl⟩
set_option maxRecDepth 100000 in
theorem no_byte (v : Value) (w : World) (h : NoR w v) : Calls Try.prog 49 #[v] w fun e w' => e = .returned (.int .u8 0) ∧ w = w' := by
  have HT := Lib.hid (no_number v 1 w h)
  go_enter Try.func49, Try.ntmps49
  go_wp2_with (go_at_call 127; refine HT.out.mono ?_; rintro e w1 ⟨rfl, rfl⟩)
  go_ret
  exact ⟨rfl, rfl⟩
set_option maxRecDepth 100000 in
theorem no_u16 (v : Value) (w : World) (h : NoR w v) : Calls Try.prog 50 #[v] w fun e w' => e = .returned (.int .i64 0) ∧ w = w' := by
  have HT := Lib.hid (no_number v 2 w h)
  go_enter Try.func50, Try.ntmps50
  go_wp2_with (go_at_call 127; refine HT.out.mono ?_; rintro e w1 ⟨rfl, rfl⟩)
  go_ret
  exact ⟨rfl, rfl⟩
set_option maxRecDepth 100000 in
theorem no_u32 (v : Value) (w : World) (h : NoR w v) : Calls Try.prog 51 #[v] w fun e w' => e = .returned (.int .i64 0) ∧ w = w' := by
  have HT := Lib.hid (no_number v 4 w h)
  go_enter Try.func51, Try.ntmps51
  go_wp2_with (go_at_call 127; refine HT.out.mono ?_; rintro e w1 ⟨rfl, rfl⟩)
  go_ret
  exact ⟨rfl, rfl⟩
set_option maxRecDepth 100000 in
theorem no_left (v : Value) (w : World) (h : NoR w v) : Calls Try.prog 45 #[v] w fun e w' => e = .returned (.int .i64 0) ∧ w = w' := by
  rcases h with rfl | ⟨g, rfl, hg⟩
  · go_enter Try.func45, Try.ntmps45
    go_wp2
    go_ret
    exact ⟨rfl, rfl⟩
  · have hc0 : w.cell? ⟨g, 0, none⟩ = some (.bool false) := by rw [hg.cell]; rfl
    go_enter Try.func45, Try.ntmps45
    go_wp2
    go_ret
    exact ⟨rfl, rfl⟩
set_option maxRecDepth 100000 in
theorem no_bad (v : Value) (w : World) (h : NoR w v) : Calls Try.prog 46 #[v] w fun e w' => e = .returned (.bool false) ∧ w = w' := by
  rcases h with rfl | ⟨g, rfl, hg⟩
  · go_enter Try.func46, Try.ntmps46
    go_wp2
    go_ret
    exact ⟨rfl, rfl⟩
  · have hc1 : w.cell? ⟨g, 1, none⟩ = some (.bool false) := by rw [hg.cell]; rfl
    go_enter Try.func46, Try.ntmps46
    go_wp2
    go_ret
    exact ⟨rfl, rfl⟩
set_option maxRecDepth 100000 in
theorem no_done (v : Value) (w : World) (h : NoR w v) : Calls Try.prog 47 #[v] w fun e w' => e = .returned (.bool false) ∧ w = w' := by
  rcases h with rfl | ⟨g, rfl, hg⟩
  · go_enter Try.func47, Try.ntmps47
    go_wp2
    go_ret
    exact ⟨rfl, rfl⟩
  · have hc0 : w.cell? ⟨g, 0, none⟩ = some (.bool false) := by rw [hg.cell]; rfl
    go_enter Try.func47, Try.ntmps47
    go_wp2
    go_ret
    exact ⟨rfl, rfl⟩

set_option maxRecDepth 100000 in
set_option maxHeartbeats 2000000 in
theorem octet_nil (k : Int) (w : World) (hk : -9223372036854775808 ≤ k ∧ k ≤ 9223372036854775807) :
    Calls Try.prog 6 #[.int .i64 k] w fun e w' => e = .returned (.bool true) ∧ Below w.heap.size w w' := by
  go_enter Try.func6, Try.ntmps6
  go_upto_region 3 with fail
  have hb1 : Blk ((w.alloc (.cells #[.bool false, .bool false, .slice none 0 0] 59)).alloc (.cells #[.pointer none, .pointer (some ⟨w.heap.size, 0, none⟩)] 45)) w.heap.size 59 [.bool false, .bool false, .slice none 0 0] := (Blk.new w 59 [.bool false, .bool false, .slice none 0 0]).alloc _
  have hb2 : Blk ((w.alloc (.cells #[.bool false, .bool false, .slice none 0 0] 59)).alloc (.cells #[.pointer none, .pointer (some ⟨w.heap.size, 0, none⟩)] 45)) (w.heap.size + 1) 45 [.pointer none, .pointer (some ⟨w.heap.size, 0, none⟩)] := by
    have := Blk.new (w.alloc (.cells #[.bool false, .bool false, .slice none 0 0] 59)) 45 [.pointer none, .pointer (some ⟨w.heap.size, 0, none⟩)]
    simpa using this
  have hB : Below w.heap.size w ((w.alloc (.cells #[.bool false, .bool false, .slice none 0 0] 59)).alloc (.cells #[.pointer none, .pointer (some ⟨w.heap.size, 0, none⟩)] 45)) := ((Below.refl _ _).alloc (Nat.le_refl _) _).alloc (by simp) _
  generalize (w.alloc (.cells #[.bool false, .bool false, .slice none 0 0] 59)).alloc (.cells #[.pointer none, .pointer (some ⟨w.heap.size, 0, none⟩)] 45) = w0 at *
  have hv0 : NoR w0 (.pointer none) := .inl rfl
  have hv1 : NoR w0 (.pointer (some ⟨w.heap.size, 0, none⟩)) := .inr ⟨_, rfl, hb1⟩
  have hcells : Hid (∀ k : Nat, k < 2 → ∃ v, w0.cell? ⟨w.heap.size + 1, k, none⟩ = some v ∧ NoR w0 v) := by
    intro k hk
    match k, hk with
    | 0, _ => exact ⟨_, by rw [hb2.cell]; rfl, hv0⟩
    | 1, _ => exact ⟨_, by rw [hb2.cell]; rfl, hv1⟩
  clear hv0 hv1 hb1 hb2
  go_wp2_with fail
  go_loopw [5] (fun i wr => ∃ j : Nat, j ≤ 2 ∧ i = .int .i64 (j : Int) ∧ w0 = wr) (fun i _ => 2 - (intOf i).toNat)
  case atStart => exact ⟨0, by omega, by go_num, rfl⟩
  case round =>
    obtain ⟨j, hj, rfl, rfl⟩ := hrel
    by_cases hlt : j < 2
    · obtain ⟨v, hc, hv⟩ := hcells.out j hlt
      go_wp2_with (first
        | (go_at_call 49; refine (no_byte v w0 hv).mono ?_; rintro e w1 ⟨rfl, rfl⟩)
        | (go_at_call 50; refine (no_u16 v w0 hv).mono ?_; rintro e w1 ⟨rfl, rfl⟩)
        | (go_at_call 51; refine (no_u32 v w0 hv).mono ?_; rintro e w1 ⟨rfl, rfl⟩)
        | (go_at_call 52; refine (no_take v k w0 hv).mono ?_; rintro e w1 ⟨rfl, rfl⟩)
        | (go_at_call 45; refine (no_left v w0 hv).mono ?_; rintro e w1 ⟨rfl, rfl⟩)
        | (go_at_call 46; refine (no_bad v w0 hv).mono ?_; rintro e w1 ⟨rfl, rfl⟩)
        | (go_at_call 47; refine (no_done v w0 hv).mono ?_; rintro e w1 ⟨rfl, rfl⟩))
      go_roundw
      case rel => exact ⟨j + 1, by omega, by go_num, by first | rfl | trivial⟩
      case measure => simp only [intOf]; omega
    · obtain rfl : j = 2 := by omega
      go_wp2_with (first
        | (go_at_call 41
           first
            | (refine (new_any none 0 0 [] w0 (Rd.nil _ _) rfl (by omega)).mono ?_
               rintro e w1 ⟨g, A1, c1, rfl, hm1⟩
               have hS1 : Below w0.heap.size w0 w1 := hm1.bel)
            | (refine (new_any none 0 0 [] w1 (Rd.nil _ _) rfl (by omega)).mono ?_
               rintro e w2 ⟨g2, A2, c2, rfl, hm2⟩
               have hS2 : Below w0.heap.size w0 w2 := hS1.trans (hm2.bel.mono hS1.size)
               have hp : RdP (fun _ => False) w2 g2 (some []) := ⟨A2, 0, c2, hm2.blk, rfl, Nat.zero_le _, hm2.max, hm2.rd, fun _ _ h => h⟩))
        | (go_at_call 47; refine (done_any g2 (some []) w2 hp).mono ?_; rintro e w3 ⟨rfl, rfl⟩))
      go_ret
      exact ⟨rfl, hB.trans (hS2.mono hB.size)⟩
end Go.Proofs.Ytehbahobkgoapaa
