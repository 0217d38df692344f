/- The walk of ShaNil: states that are nil or that nobody made; the digest of the text abc. -/
import Derived.Test.YtehbahobkgoapaaTc
import Derived.Test.YtehbahobkgoapaaGp
import Derived.Test.YtehbahobkgoapaaHx
import Derived.Lib.SlBytesConst
namespace Go.Proofs.Ytehbahobkgoapaa
open Go Go.RowKit
set_option linter.unusedSimpArgs false
set_option linter.unusedVariables false

set_option linter.unusedSectionVars false
/-- pv is no state, in every world that meets N. -/
def NoSt (N : World → Prop) (pv : Value) : Prop := ∀ u, N u → Calls Try.prog 142 #[pv] u fun e w' => e = .returned (.bool true) ∧ u = w'
section
variable {N : World → Prop} {pv : Value} (C : NoSt N pv) (w : World) (hN : N w)
include C hN
set_option maxRecDepth 100000 in
set_option maxHeartbeats 1000000 in
theorem write_none (A : Option Addr) (n c : Nat) : Calls Try.prog 84 #[pv, .slice A n c] w fun e w' => e = .returned (.int .i64 0) ∧ w = w' := by
  have D := Lib.hid (C w hN)
  clear C hN
  go_enter Try.func84, Try.ntmps84
  go_wp2_with (first
    | (go_at_call 142; with_reducible refine D.out.mono ?_; rintro e w1 ⟨rfl, rfl⟩))
  go_ret
  exact ⟨rfl, rfl⟩
set_option maxRecDepth 100000 in
set_option maxHeartbeats 1000000 in
theorem len_none : Calls Try.prog 86 #[pv] w fun e w' => e = .returned (.int .i64 0) ∧ w = w' := by
  have D := Lib.hid (C w hN)
  clear C hN
  go_enter Try.func86, Try.ntmps86
  go_wp2_with (first
    | (go_at_call 142; with_reducible refine D.out.mono ?_; rintro e w1 ⟨rfl, rfl⟩))
  go_ret
  exact ⟨rfl, rfl⟩
set_option maxRecDepth 100000 in
set_option maxHeartbeats 1000000 in
theorem clone_none : Calls Try.prog 87 #[pv] w fun e w' => e = .returned (.pointer none) ∧ w = w' := by
  have D := Lib.hid (C w hN)
  clear C hN
  go_enter Try.func87, Try.ntmps87
  go_wp2_with (first
    | (go_at_call 142; with_reducible refine D.out.mono ?_; rintro e w1 ⟨rfl, rfl⟩))
  go_ret
  exact ⟨rfl, rfl⟩
set_option maxRecDepth 100000 in
set_option maxHeartbeats 1000000 in
theorem sum_none (hN2 : N (w.alloc (.cells (bvs (zb 32)).toArray 25))) : Calls Try.prog 85 #[pv] w fun e w' => e = .returned (.agg (bvs (zb 32)).toArray) ∧ Below w.heap.size w w' := by
  have D := Lib.hid (C _ hN2)
  have hbz : Blk (w.alloc (.cells (bvs (zb 32)).toArray 25)) w.heap.size 25 (bvs (zb 32)) := Blk.new _ _ _
  have hw0 : Below w.heap.size w (w.alloc (.cells (bvs (zb 32)).toArray 25)) := (Below.refl _ _).alloc (Nat.le_refl _) _
  clear C hN hN2
  go_enter Try.func85, Try.ntmps85
  go_upto_region 1 with fail
  generalize hW : World.alloc w _ = w0
  have h3 : Blk w0 w.heap.size 25 (bvs (zb 32)) ∧ Below w.heap.size w w0 ∧ Hid (Calls Try.prog 142 #[pv] w0 fun e w' => e = .returned (.bool true) ∧ w0 = w') := by rw [← hW]; exact ⟨hbz, hw0, D⟩
  clear hW hbz hw0 D
  obtain ⟨hbz, hw0, D⟩ := h3
  go_upto_region 2 with (first
    | (go_at_call 142; with_reducible refine D.out.mono ?_; rintro e w1 ⟨rfl, rfl⟩))
  refine wp_region_lit ?_
  refine wpList_yield rfl _ (exec_build _ rfl (bvs (zb 32)).toArray (by kernel_rfl)) ?_
  simp only [Act.put, List.setIfInBounds_toArray, List.set_cons_zero, List.set_cons_succ]
  refine wpList_store_at at25w.i rfl (.tmp 2) (.tmp 16) rfl w.heap.size 0 25 (bvs (zb 32)) (bvs (zb 32)) rfl rfl hbz (by rw [bvs_length, zb_length]) (by rw [bvs_length, zb_length]; omega) (bvs_one _) ?_
  intro w4 hb4 hg4 hs4
  (try simp only [Act.put, List.setIfInBounds_toArray, List.set_cons_zero, List.set_cons_succ])
  refine wpList_nil ?_
  go_wp2_with fail
  (try simp only [Exit.inBlock, Exit.then])
  rw [splice_all _ _ rfl] at hb4
  refine bodyPost_ret (ret_cell rfl at25w _ _ w.heap.size 25 (bvs (zb 32)) rfl hb4 (by rw [bvs_length, zb_length])) rfl ?_
  exact ⟨rfl, hw0.grown hg4 hw0.size (by intro k hk; cases hk; omega)⟩
end
theorem w104 : ∃ d, Try.prog.underlying 104 = some d ∧ d.isRow = false := ⟨_, Try.underlying104, rfl⟩
theorem exec_load104 {w : World} {a : Act} {o : Oper} (x : Operand) (ho : o.op = .load 104 x) (ad : Addr) (v : Value) (hx : a.eval x = .pointer (some ad)) (hc : w.cell? ad = some v) : (execOp a.eval o).run Try.prog w = .ok (.value v) w := by
  obtain ⟨d, hu, hd⟩ := w104
  exact exec_load_one hu hd x ho ad v hx hc
theorem sz104 : (Try.prog.info? 104).map (·.size) = some 1 := by kernel_rfl
theorem marked_rd (u : World) (l : List UInt8) (m k : Nat) (cs : Array Value) (hc : cs = (bvs l).toArray) : Rd (u.alloc (.cells cs 5 (m, k))) (some ⟨u.heap.size, 0, none⟩) (bvs l) := by
  subst hc
  intro _
  refine ⟨_, rfl, ?_⟩
  intro i v hv
  rw [add_none, Nat.zero_add]
  have h : (u.alloc (.cells (bvs l).toArray 5 (m, k))).heap[u.heap.size]? = some (.cells (bvs l).toArray 5 (m, k)) := by
    show (u.heap.push _)[u.heap.size]? = _
    simp
  unfold World.cell?
  simp only [h]
  simpa using hv
set_option maxRecDepth 100000 in
theorem abc_hex : hexs (shaL [97, 98, 99]) = [98, 97, 55, 56, 49, 54, 98, 102, 56, 102, 48, 49, 99, 102, 101, 97, 52, 49, 52, 49, 52, 48, 100, 101, 53, 100, 97, 101, 50, 50, 50, 51, 98, 48, 48, 51, 54, 49, 97, 51, 57, 54, 49, 55, 55, 97, 57, 99, 98, 52, 49, 48, 102, 102, 54, 49, 102, 50, 48, 48, 49, 53, 97, 100] := by decide +kernel

set_option maxRecDepth 100000 in
set_option maxHeartbeats 4000000 in
theorem sha_nil (A : Option Addr) (n c : Nat) (w : World) : Calls Try.prog 17 #[.slice A n c] w fun e w' => e = .returned (.bool true) ∧ Below w.heap.size w w' := by
  have b1 : Blk (w.alloc (.cells zst.toArray 128)) w.heap.size 128 zst := Blk.new _ _ _
  have b2 : Blk ((w.alloc (.cells zst.toArray 128)).alloc (.cells #[.pointer none, .pointer (some ⟨w.heap.size, 0, none⟩)] 104)) (w.heap.size + 1) 104 [.pointer none, .pointer (some ⟨w.heap.size, 0, none⟩)] := by
    have := Blk.new (w.alloc (.cells zst.toArray 128)) 104 [.pointer none, .pointer (some ⟨w.heap.size, 0, none⟩)]
    rwa [show (w.alloc (.cells zst.toArray 128)).heap.size = w.heap.size + 1 by simp] at this
  have hall : _ ∧ _ ∧ Below w.heap.size w ((w.alloc (.cells zst.toArray 128)).alloc (.cells #[.pointer none, .pointer (some ⟨w.heap.size, 0, none⟩)] 104)) := ⟨b1.alloc (.cells #[.pointer none, .pointer (some ⟨w.heap.size, 0, none⟩)] 104), b2, ((Below.refl _ _).alloc (Nat.le_refl _) _).alloc (by simp) _⟩
  clear b1 b2
  have HH := Lib.hid abc_hex
  have HDL : Hid ((shaL [97, 98, 99]).length = 32) := Lib.hid (shaL_length _)
  have SA := fun (G : Nat) (u : World) (h : Tx u (some ⟨G, 0, none⟩) 3 3 [97, 98, 99]) => Lib.hid (sum_tx (some ⟨G, 0, none⟩) 3 3 [97, 98, 99] u h (by omega))
  generalize shaL [97, 98, 99] = dA at *
  unfold arr8 at SA
  go_enter Try.func17, Try.ntmps17
  go_upto_region 2 with fail
  refine wp_region_lit ?_
  refine wpList_yield rfl _ (exec_move _ rfl) ?_
  simp only [Act.put, Act.eval, Array.getD_eq_getD_getElem?, List.getElem?_toArray, List.getElem?_cons_succ, List.getElem?_cons_zero, Option.getD_some, List.setIfInBounds_toArray, List.set_cons_zero, List.set_cons_succ]
  refine wpList_yield rfl _ (exec_build _ rfl zst.toArray (by kernel_rfl)) ?_
  simp only [Act.put, List.setIfInBounds_toArray, List.set_cons_zero, List.set_cons_succ]
  refine wpList_plain rfl fun K hK => ?_; go_simp
  refine hK _ _ ?_; clear hK
  (try simp only [Act.put, List.setIfInBounds_toArray, List.set_cons_zero, List.set_cons_succ])
  refine wpList_plain rfl fun K hK => ?_; go_simp
  refine hK _ _ ?_; clear hK
  (try simp only [Act.put, List.setIfInBounds_toArray, List.set_cons_zero, List.set_cons_succ])
  refine wpList_yield rfl _ (exec_assign _ rfl) ?_
  simp only [Act.put, Act.eval, Array.getD_eq_getD_getElem?, List.getElem?_toArray, List.getElem?_cons_succ, List.getElem?_cons_zero, Option.getD_some, List.setIfInBounds_toArray, List.set_cons_zero, List.set_cons_succ]
  refine wpList_nil ?_
  generalize hW : World.alloc (World.alloc w _) _ = w2
  have h3 : Blk w2 w.heap.size 128 zst ∧ Blk w2 (w.heap.size + 1) 104 [.pointer none, .pointer (some ⟨w.heap.size, 0, none⟩)] ∧ Below w.heap.size w w2 := by rw [← hW]; exact hall
  clear hW hall
  obtain ⟨b1, b2, b0⟩ := h3
  go_wp2_with fail
  go_loopw [5] (fun i wr => ∃ k : Nat, k ≤ 2 ∧ i = .int .i64 (k : Int) ∧ Below w2.heap.size w2 wr) (fun i _ => 2 - (intOf i).toNat)
  case atStart => exact ⟨0, by omega, by go_num, Below.refl _ _⟩
  case round =>
    obtain ⟨k, hk, rfl, hw⟩ := hrel
    by_cases hlt : k < 2
    · have hltz : (k : Int) < 2 := by omega
      obtain ⟨pv, hpv, hno⟩ : ∃ pv, (∀ W, Below w2.heap.size w2 W → W.cell? ((⟨w.heap.size + 1, 0, none⟩ : Addr).add k) = some pv) ∧ NoSt (fun u => Below w2.heap.size w2 u) pv := by
        match k, hlt with
        | 0, _ =>
          refine ⟨.pointer none, fun W hW => ?_, fun u _ => none_nil u⟩
          rw [add_none, (b2.below hW b2.lt).cell]; rfl
        | 1, _ =>
          refine ⟨.pointer (some ⟨w.heap.size, 0, none⟩), fun W hW => ?_, fun u hu => none_made w.heap.size u ?_⟩
          · rw [add_none, (b2.below hW b2.lt).cell]; rfl
          · rw [(b1.below hu b1.lt).cell]; rfl
      have W1 := fun (u : World) (h : Below w2.heap.size w2 u) => Lib.hid (write_none hno u h A n c)
      have W2 := fun (u : World) (h : Below w2.heap.size w2 u) => Lib.hid (len_none hno u h)
      have W3 := fun (u : World) (h : Below w2.heap.size w2 u) => Lib.hid (sum_none hno u h (h.alloc h.size _))
      have W4 := fun (u : World) (h : Below w2.heap.size w2 u) => Lib.hid (clone_none hno u h)
      clear hno
      go_upto_region 6 with fail
      refine wp_region_lit ?_
      refine wpList_yield rfl _ (exec_move _ rfl) ?_
      simp only [Act.put, Act.eval, Array.getD_eq_getD_getElem?, List.getElem?_toArray, List.getElem?_cons_succ, List.getElem?_cons_zero, Option.getD_some, List.setIfInBounds_toArray, List.set_cons_zero, List.set_cons_succ]
      refine wpList_yield rfl _ (exec_move _ rfl) ?_
      simp only [Act.put, Act.eval, Array.getD_eq_getD_getElem?, List.getElem?_toArray, List.getElem?_cons_succ, List.getElem?_cons_zero, Option.getD_some, List.setIfInBounds_toArray, List.set_cons_zero, List.set_cons_succ]
      refine wpList_yield rfl _ (exec_sia Try.underlying129 sz104 _ _ rfl ⟨w.heap.size + 1, 0, none⟩ 2 2 k _ rfl rfl hlt) ?_
      simp only [Act.put, List.setIfInBounds_toArray, List.set_cons_zero, List.set_cons_succ]
      refine wpList_yield rfl _ (exec_load104 _ rfl _ _ rfl (hpv _ hw)) ?_
      simp only [Act.put, List.setIfInBounds_toArray, List.set_cons_zero, List.set_cons_succ]
      refine wpList_yield rfl _ (exec_move _ rfl) ?_
      simp only [Act.put, Act.eval, Array.getD_eq_getD_getElem?, List.getElem?_toArray, List.getElem?_cons_succ, List.getElem?_cons_zero, Option.getD_some, List.setIfInBounds_toArray, List.set_cons_zero, List.set_cons_succ]
      refine wpList_plain rfl fun K hK => ?_; go_simp
      with_reducible refine (W1 _ hw).out.mono ?_
      rintro e _ ⟨rfl, rfl⟩
      refine hK _ _ ?_; clear hK
      (try simp only [Act.put, List.setIfInBounds_toArray, List.set_cons_zero, List.set_cons_succ])
      refine wpList_yield rfl ?vp1_6 ?yp1_6 ?_
      case yp1_6 => go_simp; try with_reducible rfl
      simp only [Act.put, List.setIfInBounds_toArray, List.set_cons_zero, List.set_cons_succ]
      refine wpList_yield rfl _ (exec_move _ rfl) ?_
      simp only [Act.put, Act.eval, Array.getD_eq_getD_getElem?, List.getElem?_toArray, List.getElem?_cons_succ, List.getElem?_cons_zero, Option.getD_some, List.setIfInBounds_toArray, List.set_cons_zero, List.set_cons_succ]
      refine wpList_yield_w rfl _ (exec_move _ rfl) ?_
      simp only [Act.put, Act.eval, Array.getD_eq_getD_getElem?, List.getElem?_toArray, List.getElem?_cons_succ, List.getElem?_cons_zero, Option.getD_some, List.setIfInBounds_toArray, List.set_cons_zero, List.set_cons_succ]
      refine wpList_yield_w rfl _ (exec_move _ rfl) ?_
      simp only [Act.put, Act.eval, Array.getD_eq_getD_getElem?, List.getElem?_toArray, List.getElem?_cons_succ, List.getElem?_cons_zero, Option.getD_some, List.setIfInBounds_toArray, List.set_cons_zero, List.set_cons_succ]
      refine wpList_yield_w rfl _ (exec_sia Try.underlying129 sz104 _ _ rfl ⟨w.heap.size + 1, 0, none⟩ 2 2 k _ rfl rfl hlt) ?_
      simp only [Act.put, List.setIfInBounds_toArray, List.set_cons_zero, List.set_cons_succ]
      refine wpList_yield_w rfl _ (exec_load104 _ rfl _ _ rfl (hpv _ hw)) ?_
      simp only [Act.put, List.setIfInBounds_toArray, List.set_cons_zero, List.set_cons_succ]
      refine wpList_plain_w rfl fun K hK => ?_; go_simp
      with_reducible refine (W2 _ hw).out.mono ?_
      rintro e _ ⟨rfl, rfl⟩
      refine hK _ _ ?_; clear hK
      (try simp only [Act.put, List.setIfInBounds_toArray, List.set_cons_zero, List.set_cons_succ])
      refine wpList_yield_w rfl ?vp2_13 ?yp2_13 ?_
      case yp2_13 => go_simp; try with_reducible rfl
      simp only [Act.put, List.setIfInBounds_toArray, List.set_cons_zero, List.set_cons_succ]
      refine wpList_yield rfl ?vp3_14 ?yp3_14 ?_
      case yp3_14 => go_simp; try with_reducible rfl
      simp only [Act.put, List.setIfInBounds_toArray, List.set_cons_zero, List.set_cons_succ]
      refine wpList_yield rfl _ (exec_move _ rfl) ?_
      simp only [Act.put, Act.eval, Array.getD_eq_getD_getElem?, List.getElem?_toArray, List.getElem?_cons_succ, List.getElem?_cons_zero, Option.getD_some, List.setIfInBounds_toArray, List.set_cons_zero, List.set_cons_succ]
      refine wpList_yield_w rfl _ (exec_move _ rfl) ?_
      simp only [Act.put, Act.eval, Array.getD_eq_getD_getElem?, List.getElem?_toArray, List.getElem?_cons_succ, List.getElem?_cons_zero, Option.getD_some, List.setIfInBounds_toArray, List.set_cons_zero, List.set_cons_succ]
      refine wpList_yield_w rfl _ (exec_move _ rfl) ?_
      simp only [Act.put, Act.eval, Array.getD_eq_getD_getElem?, List.getElem?_toArray, List.getElem?_cons_succ, List.getElem?_cons_zero, Option.getD_some, List.setIfInBounds_toArray, List.set_cons_zero, List.set_cons_succ]
      refine wpList_yield_w rfl _ (exec_sia Try.underlying129 sz104 _ _ rfl ⟨w.heap.size + 1, 0, none⟩ 2 2 k _ rfl rfl hlt) ?_
      simp only [Act.put, List.setIfInBounds_toArray, List.set_cons_zero, List.set_cons_succ]
      refine wpList_yield_w rfl _ (exec_load104 _ rfl _ _ rfl (hpv _ hw)) ?_
      simp only [Act.put, List.setIfInBounds_toArray, List.set_cons_zero, List.set_cons_succ]
      refine wpList_plain_w rfl fun K hK => ?_; go_simp
      with_reducible refine (W3 _ hw).out.mono ?_
      rintro e w4 ⟨rfl, hw4⟩
      have hw5 := bthen hw hw4 hw.size
      refine hK _ _ ?_; clear hK
      (try simp only [Act.put, List.setIfInBounds_toArray, List.set_cons_zero, List.set_cons_succ])
      refine wpList_yield_w rfl _ (exec_build _ rfl (bvs (zb 32)).toArray (by kernel_rfl)) ?_
      simp only [Act.put, List.setIfInBounds_toArray, List.set_cons_zero, List.set_cons_succ]
      refine wpList_yield_w rfl _ (exec_neq_same ab25 _ _ rfl (zb 32) rfl rfl (zb_length 32)) ?_
      simp only [Act.put, List.setIfInBounds_toArray, List.set_cons_zero, List.set_cons_succ]
      refine wpList_yield rfl ?vp4_23 ?yp4_23 ?_
      case yp4_23 => go_simp; try with_reducible rfl
      simp only [Act.put, List.setIfInBounds_toArray, List.set_cons_zero, List.set_cons_succ]
      refine wpList_yield rfl _ (exec_move _ rfl) ?_
      simp only [Act.put, Act.eval, Array.getD_eq_getD_getElem?, List.getElem?_toArray, List.getElem?_cons_succ, List.getElem?_cons_zero, Option.getD_some, List.setIfInBounds_toArray, List.set_cons_zero, List.set_cons_succ]
      refine wpList_yield_w rfl _ (exec_move _ rfl) ?_
      simp only [Act.put, Act.eval, Array.getD_eq_getD_getElem?, List.getElem?_toArray, List.getElem?_cons_succ, List.getElem?_cons_zero, Option.getD_some, List.setIfInBounds_toArray, List.set_cons_zero, List.set_cons_succ]
      refine wpList_yield_w rfl _ (exec_move _ rfl) ?_
      simp only [Act.put, Act.eval, Array.getD_eq_getD_getElem?, List.getElem?_toArray, List.getElem?_cons_succ, List.getElem?_cons_zero, Option.getD_some, List.setIfInBounds_toArray, List.set_cons_zero, List.set_cons_succ]
      refine wpList_yield_w rfl _ (exec_sia Try.underlying129 sz104 _ _ rfl ⟨w.heap.size + 1, 0, none⟩ 2 2 k _ rfl rfl hlt) ?_
      simp only [Act.put, List.setIfInBounds_toArray, List.set_cons_zero, List.set_cons_succ]
      refine wpList_yield_w rfl _ (exec_load104 _ rfl _ _ rfl (hpv _ hw5)) ?_
      simp only [Act.put, List.setIfInBounds_toArray, List.set_cons_zero, List.set_cons_succ]
      refine wpList_plain_w rfl fun K hK => ?_; go_simp
      with_reducible refine (W4 _ hw5).out.mono ?_
      rintro e _ ⟨rfl, rfl⟩
      refine hK _ _ ?_; clear hK
      (try simp only [Act.put, List.setIfInBounds_toArray, List.set_cons_zero, List.set_cons_succ])
      refine wpList_yield_w rfl ?vp5_30 ?yp5_30 ?_
      case yp5_30 => go_simp; try with_reducible rfl
      simp only [Act.put, List.setIfInBounds_toArray, List.set_cons_zero, List.set_cons_succ]
      refine wpList_yield rfl ?vp6_31 ?yp6_31 ?_
      case yp6_31 => go_simp; try with_reducible rfl
      simp only [Act.put, List.setIfInBounds_toArray, List.set_cons_zero, List.set_cons_succ]
      refine wpList_nil ?_
      go_wp2_with fail
      go_roundw
      case rel => exact ⟨k + 1, by omega, by go_num, hw5⟩
      case measure => simp only [intOf]; omega
    · obtain rfl : k = 2 := by omega
      have hB : Below w.heap.size w wr := b0.trans (hw.mono b0.size)
      have kc := fun (w : World) (C : Array Value) (n c : Nat) => Lib.run_convert_bytes_const (P := Try.prog) w 24 5 C n c Try.underlying24 Try.underlying5
      have hT : Tx (wr.alloc (.cells #[.int .u8 97, .int .u8 98, .int .u8 99] 5 (3, 4))) (some ⟨wr.heap.size, 0, none⟩) 3 3 [97, 98, 99] :=
        ⟨rfl, Nat.le_refl _, by unfold maxLen; omega, marked_rd wr [97, 98, 99] 3 4 _ rfl, fun _ _ h => h⟩
      have z25 : ∀ u : World, Hid (Blk (u.alloc (.cells (bvs (zb 32)).toArray 25)) u.heap.size 25 (bvs (zb 32))) := fun u => Lib.hid (Blk.new _ _ _)
      have hB1 : Below w.heap.size w (wr.alloc (.cells #[.int .u8 97, .int .u8 98, .int .u8 99] 5 (3, 4))) := hB.alloc hB.size _
      clear hw hk hlt b1 b2
      go_upto_region 9 with (first
        | (go_at_call 79; refine (SA _ _ hT).out.mono ?_; rintro e w3 ⟨rfl, hw3⟩)
        | ((with_reducible refine at_op (Op.store 25 (.tmp 6) (.tmp 51)) ?_); refine wpList_store_at at25w.i rfl (.tmp 6) (.tmp 51) rfl w3.heap.size 0 25 (bvs (zb 32)) (bvs dA) rfl rfl (z25 w3).out (by rw [bvs_length]; exact HDL.out) (by rw [bvs_length, zb_length]; omega) (bvs_one _) ?_; intro w4 hb4 hg4 hs4))
      rw [splice_all _ _ (by rw [bvs_length, bvs_length, zb_length, HDL.out])] at hb4
      have hB3 : Below w.heap.size w w3 := bthen hB1 hw3 hB1.size
      have hB4 : Below w.heap.size w w4 := (hB3.alloc hB3.size _).grown hg4 (by have := hB3.size; simp; omega) (by intro k hk; cases hk; exact hB3.size)
      refine wp_region_lit ?_
      refine wpList_yield rfl _ (exec_arr_all ia25 _ rfl w3.heap.size 0 rfl) ?_
      simp only [Act.put, List.setIfInBounds_toArray, List.set_cons_zero, List.set_cons_succ]
      refine wpList_plain rfl fun K hK => ?_; go_simp
      refine (hex_any (some ⟨w3.heap.size, 0, none⟩) 32 32 dA w4 (Rd.of_blk0 (es := []) (by simpa using hb4)) HDL.out (by omega)).mono ?_
      rintro e w5 ⟨rfl, hw5⟩
      have hhl : hexL dA = hexs dA := by unfold hexL; rw [if_neg (by rw [HDL.out]; decide)]
      rw [hhl, HH.out]
      refine hK _ _ ?_; clear hK
      (try simp only [Act.put, List.setIfInBounds_toArray, List.set_cons_zero, List.set_cons_succ])
      refine wpList_yield rfl ?vp7_2 ?yp7_2 ?_
      case yp7_2 => go_simp; try with_reducible rfl
      simp only [Act.put, List.setIfInBounds_toArray, List.set_cons_zero, List.set_cons_succ]
      refine wpList_yield rfl _ (exec_assign _ rfl) ?_
      simp only [Act.put, Act.eval, Array.getD_eq_getD_getElem?, List.getElem?_toArray, List.getElem?_cons_succ, List.getElem?_cons_zero, Option.getD_some, List.setIfInBounds_toArray, List.set_cons_zero, List.set_cons_succ]
      refine wpList_nil ?_
      go_wp2_with fail
      go_ret
      exact ⟨rfl, bthen hB4 hw5 hB4.size⟩
end Go.Proofs.Ytehbahobkgoapaa
