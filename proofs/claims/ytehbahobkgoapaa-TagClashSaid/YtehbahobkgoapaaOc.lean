/- Contracts of octet.Put16, Put32 and of the reference's Put and Join. -/
import Derived.Test.YtehbahobkgoapaaTx
namespace Go.Proofs.Ytehbahobkgoapaa
open Go Go.RowKit
set_option linter.unusedSimpArgs false
set_option linter.unusedVariables false

/-- n bytes of v, the highest first. -/
def be : Nat → Nat → List UInt8
  | 0, _ => []
  | n + 1, v => be n (v / 256) ++ [UInt8.ofNat v]
theorem be_length (n v : Nat) : (be n v).length = n := by induction n generalizing v <;> simp [be, *]
def putL (n : Nat) (m v : Int) : List UInt8 := if 0 ≤ v ∧ v ≤ m then be n v.toNat else []
def putE (m v : Int) : Int := if 0 ≤ v ∧ v ≤ m then 0 else 2

theorem bv_wrap (z : Int) (h : 0 ≤ z) : Value.int .u8 (IntKind.u8.wrap z) = bv (UInt8.ofNat z.toNat) := by
  unfold bv
  congr 1
  rw [IntKind.wrap_u8, UInt8.toNat_ofNat']
  omega
theorem bv_mod (z : Int) (h : 0 ≤ z) : Value.int .u8 (z % 256) = bv (UInt8.ofNat z.toNat) := by
  rw [← bv_wrap z h, IntKind.wrap_u8]

theorem bv_small (z : Int) (h : 0 ≤ z) (h' : z ≤ 255) : Value.int .u8 z = bv (UInt8.ofNat z.toNat) := by
  rw [← bv_mod z h, Int.emod_eq_of_lt h (by omega)]
theorem ret_t {a b : Value} {x y : Int} (h : a = b) (k : x = y) : Ending.returned (.tuple #[a, .int .i64 x]) = .returned (.tuple #[b, .int .i64 y]) := by rw [h, k]

theorem put16 (n : Int) (w : World) (hn : -9223372036854775808 ≤ n ∧ n ≤ 9223372036854775807) :
    Calls Try.prog 36 #[.int .i64 n] w fun e w' => ∃ v, e = .returned (.tuple #[v, .int .i64 (putE 65535 n)]) ∧ OwnB w' w.heap.size 5 v (putL 2 65535 n) ∧ Below w.heap.size w w' := by
  by_cases h0 : n < 0
  · have e1 : putE 65535 n = 2 := by unfold putE; rw [if_neg (by omega)]
    have e2 : putL 2 65535 n = [] := by unfold putL; rw [if_neg (by omega)]
    rw [e1, e2]; clear e1 e2
    go_enter Try.func36, Try.ntmps36
    go_wp2
    go_ret2
    exact ⟨_, rfl, OwnB.nil _ _ _, Below.refl _ _⟩
  · by_cases h1 : 65535 < n
    · have e1 : putE 65535 n = 2 := by unfold putE; rw [if_neg (by omega)]
      have e2 : putL 2 65535 n = [] := by unfold putL; rw [if_neg (by omega)]
      rw [e1, e2]; clear e1 e2
      go_enter Try.func36, Try.ntmps36
      go_wp2
      go_ret2
      exact ⟨_, rfl, OwnB.nil _ _ _, Below.refl _ _⟩
    · have e1 : putE 65535 n = 0 := by unfold putE; rw [if_pos (by omega)]
      have e2 : putL 2 65535 n = [UInt8.ofNat (n / 256).toNat, UInt8.ofNat n.toNat] := by
        unfold putL; rw [if_pos (by omega)]
        have : n.toNat / 256 = (n / 256).toNat := by omega
        simp [be, this]
      rw [e1, e2]; clear e1 e2
      go_enter Try.func36, Try.ntmps36
      go_wp2
      go_ret2
      have e := Blk.new w 5 [Value.int .u8 (n / 256), Value.int .u8 (n % 256)]
      rw [bv_small (n / 256) (by omega) (by omega), bv_mod n (by omega)] at e
      refine ⟨_, rfl, .inr ⟨w.heap.size, [], rfl, Nat.le_refl _, by unfold maxLen; simp, ?_⟩, (Below.refl _ _).alloc (Nat.le_refl _) _⟩
      rw [bv_small (n / 256) (by omega) (by omega), bv_mod n (by omega)]
      exact e

theorem put32 (n : Int) (w : World) (hn : -9223372036854775808 ≤ n ∧ n ≤ 9223372036854775807) :
    Calls Try.prog 37 #[.int .i64 n] w fun e w' => ∃ v, e = .returned (.tuple #[v, .int .i64 (putE 4294967295 n)]) ∧ OwnB w' w.heap.size 5 v (putL 4 4294967295 n) ∧ Below w.heap.size w w' := by
  by_cases h0 : n < 0
  · have e1 : putE 4294967295 n = 2 := by unfold putE; rw [if_neg (by omega)]
    have e2 : putL 4 4294967295 n = [] := by unfold putL; rw [if_neg (by omega)]
    rw [e1, e2]; clear e1 e2
    go_enter Try.func37, Try.ntmps37
    go_wp2
    go_ret2
    exact ⟨_, rfl, OwnB.nil _ _ _, Below.refl _ _⟩
  · by_cases h1 : 4294967295 < n
    · have e1 : putE 4294967295 n = 2 := by unfold putE; rw [if_neg (by omega)]
      have e2 : putL 4 4294967295 n = [] := by unfold putL; rw [if_neg (by omega)]
      rw [e1, e2]; clear e1 e2
      go_enter Try.func37, Try.ntmps37
      go_wp2
      go_ret2
      exact ⟨_, rfl, OwnB.nil _ _ _, Below.refl _ _⟩
    · have e1 : putE 4294967295 n = 0 := by unfold putE; rw [if_pos (by omega)]
      have e2 : putL 4 4294967295 n = [UInt8.ofNat (n / 16777216).toNat, UInt8.ofNat (n / 65536).toNat, UInt8.ofNat (n / 256).toNat, UInt8.ofNat n.toNat] := by
        unfold putL; rw [if_pos (by omega)]
        have a1 : n.toNat / 256 = (n / 256).toNat := by omega
        have a2 : (n / 256).toNat / 256 = (n / 65536).toNat := by omega
        have a3 : (n / 65536).toNat / 256 = (n / 16777216).toNat := by omega
        simp only [be, a3, a2, a1, List.nil_append, List.cons_append]
      rw [e1, e2]; clear e1 e2
      go_enter Try.func37, Try.ntmps37
      go_wp2
      go_ret2
      have e := Blk.new w 5 [bv (UInt8.ofNat (n / 16777216).toNat), bv (UInt8.ofNat (n / 65536).toNat), bv (UInt8.ofNat (n / 256).toNat), bv (UInt8.ofNat n.toNat)]
      rw [← bv_mod n (by omega), ← bv_mod (n / 256) (by omega), ← bv_mod (n / 65536) (by omega), ← bv_small (n / 16777216) (by omega) (by omega)] at e
      refine ⟨_, rfl, .inr ⟨w.heap.size, [], rfl, Nat.le_refl _, by unfold maxLen; simp, ?_⟩, (Below.refl _ _).alloc (Nat.le_refl _) _⟩
      simp only [bvs, List.append_nil, List.map_cons, List.map_nil]
      rw [← bv_mod n (by omega), ← bv_mod (n / 256) (by omega), ← bv_mod (n / 65536) (by omega), ← bv_small (n / 16777216) (by omega) (by omega)]
      exact e

theorem be_cons (j v : Nat) : be (j + 1) v = UInt8.ofNat (v / 256 ^ j) :: be j v := by
  induction j generalizing v with
  | zero => simp [be]
  | succ j ih =>
    rw [be, ih, be, Nat.div_div_eq_div_mul, ← Nat.pow_succ']
    rfl
def putTo (n v j : Nat) : List UInt8 := List.replicate (n - j) 0 ++ be j v
theorem putTo_length (n v j : Nat) (h : j ≤ n) : (putTo n v j).length = n := by simp [putTo, be_length]; omega
theorem putTo_succ (n v j : Nat) (h : j < n) : (putTo n v j).set (n - 1 - j) (UInt8.ofNat (v / 256 ^ j)) = putTo n v (j + 1) := by
  unfold putTo
  have e : n - j = (n - (j + 1)) + 1 := by omega
  rw [List.set_append, if_pos (by simp; omega), be_cons]
  have : (List.replicate (n - j) (0 : UInt8)).set (n - 1 - j) (UInt8.ofNat (v / 256 ^ j)) = List.replicate (n - (j + 1)) 0 ++ [UInt8.ofNat (v / 256 ^ j)] := by
    rw [e, List.replicate_succ', List.set_append, if_neg (by simp; omega)]
    simp [show n - 1 - j - (n - (j + 1)) = 0 by omega]
  rw [this]
  simp

theorem bv_be (k j : Nat) : Value.int .u8 (((k / 256 ^ j : Nat) : Int) % 256) = bv (UInt8.ofNat (k / 256 ^ j)) := by
  rw [bv_mod _ (Int.natCast_nonneg _), Int.toNat_natCast]
theorem put_div (k j : Nat) : ((k / 256 ^ j : Nat) : Int) / 256 = ((k / 256 ^ (j + 1) : Nat) : Int) := by
  rw [Nat.pow_succ, ← Nat.div_div_eq_div_mul, Int.natCast_ediv]; rfl

set_option maxRecDepth 100000 in
theorem rput (v : Int) (n : Nat) (m : Int) (w : World) (hn : (n = 2 ∧ m = 65535) ∨ (n = 4 ∧ m = 4294967295)) (hv : -9223372036854775808 ≤ v ∧ v ≤ 9223372036854775807) :
    Calls Try.prog 38 #[.int .i64 v, .int .i64 (n : Int)] w fun e w' => ∃ u, e = .returned (.tuple #[u, .int .i64 (putE m v)]) ∧ OwnB w' w.heap.size 5 u (putL n m v) ∧ Below w.heap.size w w' := by
  by_cases hb : 0 ≤ v ∧ v ≤ m
  · have e1 : putE m v = 0 := by unfold putE; rw [if_pos hb]
    have e2 : putL n m v = be n v.toNat := by unfold putL; rw [if_pos hb]
    rw [e1, e2]; clear e1 e2
    obtain ⟨k, rfl⟩ := Int.eq_ofNat_of_zero_le hb.1
    rw [Int.toNat_natCast]
    have hk : (k : Int) ≤ m := hb.2
    clear hb
    rcases hn with ⟨rfl, rfl⟩ | ⟨rfl, rfl⟩
    · have hk : (k : Int) ≤ 65535 := hk
      go_enter Try.func38, Try.ntmps38
      go_wp2_with ((with_reducible refine at_dst 27 ?_); refine wpList_make_bytes bt rfl _ _ rfl .i64 .i64 2 2 rfl rfl (Nat.le_refl _) (by omega) ?_; intro w1 hb1 hw1 hs1)
      go_loopw [0, 7] (fun x i wr => ∃ j : Nat, j ≤ 2 ∧ i = .int .i64 (1 - (j : Int)) ∧ x = .int .i64 ((k / 256 ^ j : Nat) : Int) ∧ Blk wr w.heap.size 5 (bvs (putTo 2 k j)) ∧ Below w.heap.size w wr ∧ Hid (w.heap.size < wr.heap.size)) (fun _ i _ => (intOf i + 1).toNat)
      case atStart => exact ⟨0, by omega, by go_num, by simp, by simpa [putTo, be] using hb1, hw1, by show _ < _; omega⟩
      case round =>
        obtain ⟨j, hj, rfl, rfl, hbk, hwr, hz⟩ := hrel
        by_cases hlt : j < 2
        · obtain ⟨q, hq⟩ : ∃ q, q = 1 - j := ⟨_, rfl⟩
          have hi : (1 - (j : Int)) = (q : Int) := by omega
          rw [hi]
          have hlen := putTo_length 2 k j hj
          have hc : ∃ y, wr.cell? ⟨w.heap.size, q, none⟩ = some (bv y) := by
            refine ⟨(putTo 2 k j)[q]'(by omega), ?_⟩
            rw [hbk.cell, bvs_get, List.getElem?_eq_getElem (by omega)]; rfl
          obtain ⟨y, hc⟩ := hc
          have hf := hbk.free q
          have E1 := Lib.hid (bv_be k j)
          have E2 := Lib.hid (put_div k j)
          have E3 := Lib.hid (putTo_succ 2 k j hlt)
          have hx : k / 256 ^ j ≤ 65535 := Nat.le_trans (Nat.div_le_self _ _) (by omega)
          obtain ⟨z, hzz⟩ : ∃ z, z = k / 256 ^ j := ⟨_, rfl⟩
          rw [← hzz] at hx E1 E2 E3 ⊢
          have HZ := Lib.hid hzz; clear hzz
          have HQ := Lib.hid hq
          have hql : q < 2 := by omega
          clear hq hi hlen
          go_wp2
          go_roundw
          case rel =>
            refine ⟨j + 1, by omega, by congr 1; have := HQ.out; omega, by rw [E2.out], ?_, hwr.setCell (Nat.le_refl _) _, by simpa [Hid] using hz.out⟩
            have h1 := hbk.set_ q (bv (UInt8.ofNat z))
            rw [set_bvs, HQ.out, E3.out, ← E1.out, ← HQ.out] at h1
            exact h1
          case measure => simp only [intOf]; omega
        · obtain rfl : j = 2 := by omega
          go_wp2
          go_ret2
          refine ⟨_, rfl, .inr ⟨w.heap.size, [], rfl, Nat.le_refl _, by unfold maxLen; simp [be_length], ?_⟩, hwr⟩
          simpa [putTo] using hbk
    · have hk : (k : Int) ≤ 4294967295 := hk
      go_enter Try.func38, Try.ntmps38
      go_wp2_with ((with_reducible refine at_dst 27 ?_); refine wpList_make_bytes bt rfl _ _ rfl .i64 .i64 4 4 rfl rfl (Nat.le_refl _) (by omega) ?_; intro w1 hb1 hw1 hs1)
      go_loopw [0, 7] (fun x i wr => ∃ j : Nat, j ≤ 4 ∧ i = .int .i64 (3 - (j : Int)) ∧ x = .int .i64 ((k / 256 ^ j : Nat) : Int) ∧ Blk wr w.heap.size 5 (bvs (putTo 4 k j)) ∧ Below w.heap.size w wr ∧ Hid (w.heap.size < wr.heap.size)) (fun _ i _ => (intOf i + 1).toNat)
      case atStart => exact ⟨0, by omega, by go_num, by simp, by simpa [putTo, be] using hb1, hw1, by show _ < _; omega⟩
      case round =>
        obtain ⟨j, hj, rfl, rfl, hbk, hwr, hz⟩ := hrel
        by_cases hlt : j < 4
        · obtain ⟨q, hq⟩ : ∃ q, q = 3 - j := ⟨_, rfl⟩
          have hi : (3 - (j : Int)) = (q : Int) := by omega
          rw [hi]
          have hlen := putTo_length 4 k j hj
          have hc : ∃ y, wr.cell? ⟨w.heap.size, q, none⟩ = some (bv y) := by
            refine ⟨(putTo 4 k j)[q]'(by omega), ?_⟩
            rw [hbk.cell, bvs_get, List.getElem?_eq_getElem (by omega)]; rfl
          obtain ⟨y, hc⟩ := hc
          have hf := hbk.free q
          have E1 := Lib.hid (bv_be k j)
          have E2 := Lib.hid (put_div k j)
          have E3 := Lib.hid (putTo_succ 4 k j hlt)
          have hx : k / 256 ^ j ≤ 4294967295 := Nat.le_trans (Nat.div_le_self _ _) (by omega)
          obtain ⟨z, hzz⟩ : ∃ z, z = k / 256 ^ j := ⟨_, rfl⟩
          rw [← hzz] at hx E1 E2 E3 ⊢
          have HZ := Lib.hid hzz; clear hzz
          have HQ := Lib.hid hq
          have hql : q < 4 := by omega
          clear hq hi hlen
          go_wp2
          go_roundw
          case rel =>
            refine ⟨j + 1, by omega, by congr 1; have := HQ.out; omega, by rw [E2.out], ?_, hwr.setCell (Nat.le_refl _) _, by simpa [Hid] using hz.out⟩
            have h1 := hbk.set_ q (bv (UInt8.ofNat z))
            rw [set_bvs, HQ.out, E3.out, ← E1.out, ← HQ.out] at h1
            exact h1
          case measure => simp only [intOf]; omega
        · obtain rfl : j = 4 := by omega
          go_wp2
          go_ret2
          refine ⟨_, rfl, .inr ⟨w.heap.size, [], rfl, Nat.le_refl _, by unfold maxLen; simp [be_length], ?_⟩, hwr⟩
          simpa [putTo] using hbk
  · have e1 : putE m v = 2 := by unfold putE; rw [if_neg hb]
    have e2 : putL n m v = [] := by unfold putL; rw [if_neg hb]
    rw [e1, e2]; clear e1 e2
    by_cases h0 : v < 0
    · rcases hn with ⟨rfl, rfl⟩ | ⟨rfl, rfl⟩
      all_goals
        go_enter Try.func38, Try.ntmps38
        go_wp2
        go_ret2
        exact ⟨_, rfl, OwnB.nil _ _ _, Below.refl _ _⟩
    · have h1 : m < v := by omega
      rcases hn with ⟨rfl, rfl⟩ | ⟨rfl, rfl⟩
      all_goals
        go_enter Try.func38, Try.ntmps38
        go_wp2
        go_ret2
        exact ⟨_, rfl, OwnB.nil _ _ _, Below.refl _ _⟩

theorem rjoin0 (A : Option Addr) (c : Nat) (vs : List Value) (ls : List (List UInt8)) (w : World) (hr : Rd w A vs) (ha : AllRd w vs ls) (hn : ls.length ≤ 9223372036854775807) (hb : ls.flatten.length ≤ 140737488355328) :
   Calls Try.prog 39 #[.slice A ls.length c] w fun e w' => ∃ v, e = .returned v ∧ OwnB w' w.heap.size 5 v ls.flatten ∧ Below w.heap.size w w' := by
  have HL := Lib.hid ha.1
  go_enter Try.func39, Try.ntmps39
  go_wp2_with fail
  go_loopw [3, 4] (fun out i wr => ∃ k : Nat, k ≤ ls.length ∧ i = .int .i64 (k : Int) ∧ OwnB wr w.heap.size 5 out (ls.take k).flatten ∧ Below w.heap.size w wr) (fun _ i _ => ls.length - (intOf i).toNat)
  case atStart => exact ⟨0, by omega, by go_num, OwnB.nil _ _ _, Below.refl _ _⟩
  case round =>
    obtain ⟨k, hk, rfl, ho, hw⟩ := hrel
    by_cases hlt : k < ls.length
    · obtain ⟨v, hv⟩ : ∃ v, vs[k]? = some v := ⟨_, List.getElem?_eq_getElem (by have := HL.out; omega)⟩
      obtain ⟨ad, rfl, hcc⟩ := hr (by have := HL.out; omega)
      have hc : wr.cell? (ad.add k) = some v := (hw.cell (World.block_lt_of_cell? w _ (hcc k v hv))).trans (hcc k v hv)
      obtain ⟨A, d, rfl, hd, hrd⟩ := ha.2 k v ls[k] hv (List.getElem?_eq_getElem hlt)
      have hlen := flatten_take_len ls k hlt
      have HF := Lib.hid (flatten_take_succ ls k hlt)
      go_wp2_with ((with_reducible refine at_dst 16 ?_); refine wpList_append_bytes bt rfl (.tmp 11) (.tmp 15) rfl w.heap.size u3 _ rfl ho A ls[k].length d ls[k] rfl rfl (hrd.below hw) (by omega) hw.size ?_; intro v1 w1 ho1 hg1 _)
      go_roundw
      case rel => exact ⟨k + 1, by omega, by go_num, by rw [HF.out]; exact ho1, hw.grown hg1 hw.size (fun g hg => (ho.lt g hg).1)⟩
      case measure => simp [intOf]; omega
    · obtain rfl : k = ls.length := by omega
      go_wp2
      go_ret
      rw [List.take_length] at ho
      exact ⟨u3, rfl, ho, hw⟩
theorem rjoin (A : Option Addr) (n c : Nat) (vs : List Value) (ls : List (List UInt8)) (w : World) (hl : ls.length = n) (hr : Rd w A vs) (ha : AllRd w vs ls) (hn : ls.length ≤ 9223372036854775807) (hb : ls.flatten.length ≤ 140737488355328) :
   Calls Try.prog 39 #[.slice A n c] w fun e w' => ∃ v, e = .returned v ∧ OwnB w' w.heap.size 5 v ls.flatten ∧ Below w.heap.size w w' := by
  subst hl; exact rjoin0 A c vs ls w hr ha hn hb
end Go.Proofs.Ytehbahobkgoapaa
