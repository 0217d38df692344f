/- Contracts of the statements' own kit: LentBytes, SameBytes, KeptBytes. -/
import Derived.Test.YtehbahobkgoapaaTy
import Derived.Test.YtehbahobkgoapaaRg
import Derived.Outline
import Derived.LoopTactic
import Derived.IntWalk
namespace Go.Proofs.Ytehbahobkgoapaa
open Go Go.RowKit
set_option linter.unusedSimpArgs false

def mark (i : Nat) : UInt8 := UInt8.ofNat (200 + i % 50)
def lentTo (l : List UInt8) (j : Nat) : List UInt8 := l ++ (List.range j).map (fun i => mark (l.length + i)) ++ List.replicate (5 - j) 0
def lentAll (l : List UInt8) : List UInt8 := l ++ (List.range 5).map (fun i => mark (l.length + i))

theorem lentTo_zero (l : List UInt8) : lentTo l 0 = l ++ List.replicate 5 0 := by simp [lentTo]
theorem lentTo_all (l : List UInt8) : lentTo l 5 = lentAll l := by simp [lentTo, lentAll]
theorem lentTo_length (l : List UInt8) (j : Nat) (h : j ≤ 5) : (lentTo l j).length = l.length + 5 := by simp [lentTo]; omega
theorem lentTo_succ (l : List UInt8) (j : Nat) (h : j < 5) : (lentTo l j).set (l.length + j) (mark (l.length + j)) = lentTo l (j + 1) := by
  apply List.ext_getElem?
  intro i
  simp only [lentTo, List.getElem?_set, List.length_append, List.length_map, List.length_range, List.length_replicate]
  by_cases hi : l.length + j = i
  · subst hi
    rw [if_pos rfl, if_pos (by omega)]
    rw [List.getElem?_append_left (by simp), List.getElem?_append_right (by simp)]
    simp
  · rw [if_neg hi]
    rcases Nat.lt_or_ge i l.length with h1 | h1
    · rw [List.append_assoc, List.append_assoc, List.getElem?_append_left h1, List.getElem?_append_left h1]
    · rw [List.append_assoc, List.append_assoc, List.getElem?_append_right h1, List.getElem?_append_right h1]
      rcases Nat.lt_or_ge (i - l.length) j with h2 | h2
      · rw [List.getElem?_append_left (by simpa using h2), List.getElem?_append_left (by simp; omega)]
        simp [h2, show i - l.length < j + 1 by omega]
      · rw [List.getElem?_append_right (by simpa using h2), List.getElem?_append_right (by simp; omega)]
        simp [List.getElem?_replicate]
        by_cases h3 : i - l.length - j < 5 - j
        · rw [if_pos h3, if_pos (by omega)]
        · rw [if_neg h3, if_neg (by omega)]

theorem set_bvs (l : List UInt8) (i : Nat) (x : UInt8) : (bvs l).set i (bv x) = bvs (l.set i x) := by simp [bvs, List.map_set]
theorem bv_mark (i : Nat) : bv (mark i) = .int .u8 (200 + (i : Int) % 50) := by
  unfold bv mark
  congr 1
  rw [UInt8.toNat_ofNat_of_lt' (by show _ < 256; omega)]
  omega

set_option maxRecDepth 100000 in
theorem lent (A : Option Addr) (n c : Nat) (l : List UInt8) (w : World) (hr : Rd w A (bvs l)) (hl : l.length = n) (hn : n ≤ 140737488351232) :
   Calls Try.prog 25 #[.slice A n c] w fun e w' => e = .returned (.slice (some ⟨w.heap.size, 0, none⟩) n (n+5)) ∧ Blk w' w.heap.size 5 (bvs (lentAll l)) ∧ Below w.heap.size w w' ∧ w'.heap.size = w.heap.size + 1 := by
  have HL := Lib.hid hl
  clear hl
  go_enter Try.func25, Try.ntmps25
  go_wp2_with (first
    | (at_make; refine wpList_make_bytes bt rfl _ _ rfl .i64 .i64 (n+5) (n+5) (by go_num) (by go_num) (Nat.le_refl _) (by omega) ?_; intro w1 hb1 hw1 hs1)
    | ((with_reducible refine at_dst 11 ?_)
       refine wpList_copy_bytes bt rfl (.tmp 9) (.tmp 10) rfl w.heap.size 0 (n+5) (n+5) A n c rfl rfl 5 (List.replicate (n+5) 0) l hb1 (hr.below hw1) HL.out (by simp) ?_
       intro w2 hb2 hw2 hs2))
  have hb : Blk w2 w.heap.size 5 (bvs (lentTo l 0)) := by
    rw [lentTo_zero]
    have := HL.out
    have e : List.take 0 (List.replicate (n + 5) (0 : UInt8)) ++ List.take (min n (n + 5)) l ++ List.drop (0 + min n (n + 5)) (List.replicate (n + 5) 0) = l ++ List.replicate 5 0 := by
      rw [show min n (n + 5) = n by omega]
      simp [List.take_of_length_le (Nat.le_of_eq this)]
    rwa [e] at hb2
  have hw : Below w.heap.size w w2 := hw1.grown hw2 (by omega) (by intro k hk; cases hk; omega)
  clear hb1 hb2 hw1 hw2
  have hz : Hid (w2.heap.size = w.heap.size + 1) := by rw [hs2, hs1]; rfl
  clear hs1 hs2
  go_loopw [4] (fun i wr => ∃ k : Nat, k ≤ 5 ∧ i = .int .i64 ((n + k : Nat) : Int) ∧ Blk wr w.heap.size 5 (bvs (lentTo l k)) ∧ Below w.heap.size w wr ∧ Hid (wr.heap.size = w.heap.size + 1)) (fun i _ => n + 5 - (intOf i).toNat)
  case atStart => exact ⟨0, by omega, by go_num, hb, hw, hz⟩
  case round =>
    obtain ⟨k, hk, rfl, hb, hw, hz⟩ := hrel
    by_cases hlt : k < 5
    · have hc : ∃ v, wr.cell? ⟨w.heap.size, n + k, none⟩ = some v := by
        rw [hb.cell]
        have := HL.out
        exact ⟨_, List.getElem?_eq_getElem (by rw [bvs_length, lentTo_length _ _ hk]; omega)⟩
      obtain ⟨v, hc⟩ := hc
      have hf := hb.free (n + k)
      go_wp2
      go_roundw
      case rel =>
        have h1 := hb.set_ (n + k) (bv (mark (l.length + k)))
        rw [set_bvs, HL.out.symm, lentTo_succ l k hlt, HL.out, bv_mark] at h1
        refine ⟨k + 1, by omega, by go_num, ?_, hw.setCell (by simp) _, ?_⟩
        · simpa using h1
        · have := hz.out; simpa [Hid] using this
      case measure => simp [intOf]; omega
    · obtain rfl : k = 5 := by omega
      go_wp2
      go_ret
      rw [lentTo_all] at hb
      exact ⟨rfl, hb, hw, hz.out⟩
theorem mixed : Try.prog.follows .mixedOrders = true := by kernel_rfl

theorem same_bytes (A : Option Addr) (n c : Nat) (l : List UInt8) (B : Option Addr) (m d : Nat) (k : List UInt8) (w : World) (ha : Rd w A (bvs l)) (hl : l.length = n) (hb : Rd w B (bvs k)) (hk : k.length = m) :
   Calls Try.prog 33 #[.slice A n c, .slice B m d] w fun e w' => e = .returned (.bool (l == k)) ∧ w = w' := by
  have HL := Lib.hid hl; clear hl
  have HK := Lib.hid hk; clear hk
  go_enter Try.func33, Try.ntmps33
  go_wp2_with (first
    | ((with_reducible refine at_dst 6 ?_); refine wpList_bytes_string bt rfl (.tmp 5) rfl A n c rfl l ha HL.out ?_)
    | ((with_reducible refine at_dst 8 ?_); refine wpList_bytes_string bt rfl (.tmp 7) rfl B m d rfl k hb HK.out ?_))
  go_ret
  exact ⟨rfl, rfl⟩

set_option maxHeartbeats 2000000 in
set_option maxRecDepth 100000 in
theorem kept_bytes (ad : Addr) (A : Option Addr) (n c : Nat) (l : List UInt8) (w : World) (hr : Rd w A (bvs l)) (hl : l.length = n) (hn : n ≤ 140737488351232)
    (hk : Rd w (some ad) (bvs (lentAll l))) :
   Calls Try.prog 40 #[.slice (some ad) n (n + 5), .slice A n c] w fun e w' => e = .returned (.bool true) ∧ Below w.heap.size w w' := by
  have HL := Lib.hid hl; clear hl
  have k1 : (0 : Int) ≤ (n : Int) + 5 := by omega
  have k2 : IntKind.i64.wrap ((n : Int) + 5) = (n : Int) + 5 := IntWalk.i64_in _ (by omega)
  have hll : Hid ((lentAll l).length = n + 5) := by have := HL.out; show _ = _; simp [lentAll, this]
  go_enter Try.func40, Try.ntmps40
  go_wp2_with fail
  refine rg_begin (Below w.heap.size w) [] [6] [0, 1, 2, 3, 4, 5, 7, 8, 9, 6, 10, 11, 12, 13, 14, 15, 16, 17, 18, 19, 20] 0 mixed (by kernel_rfl) (fun _ _ _ _ e hh => ⟨e.symm.trans hh.1, hh.2⟩) ?_
  simp only [pick, List.map_cons, List.map_nil, List.getD_cons_zero, List.getD_cons_succ]
  have hS : (Below w.heap.size w) _ := (Below.refl _ _).drew
  refine rg_take (v := ?v1_0) rfl rfl hS ?y1_0 ?_
  case y1_0 => intro W hW; (try subst hW); go_simp; try with_reducible rfl
  simp only [Act.put, List.setIfInBounds_toArray, List.set_cons_zero, List.set_cons_succ]
  refine rg_take (v := ?v1_1) rfl rfl hS ?y1_1 ?_
  case y1_1 => intro W hW; (try subst hW); go_simp; try with_reducible rfl
  simp only [Act.put, List.setIfInBounds_toArray, List.set_cons_zero, List.set_cons_succ]
  refine rg_take (v := ?v1_2) rfl rfl hS ?y1_2 ?_
  case y1_2 => intro W hW; (try subst hW); go_simp; try with_reducible rfl
  simp only [Act.put, List.setIfInBounds_toArray, List.set_cons_zero, List.set_cons_succ]
  refine rg_take (v := ?v1_3) rfl rfl hS ?y1_3 ?_
  case y1_3 => intro W hW; (try subst hW); go_simp; try with_reducible rfl
  simp only [Act.put, List.setIfInBounds_toArray, List.set_cons_zero, List.set_cons_succ]
  refine rg_take rfl rfl hS (fun W hW => exec_bytes_string bt (.tmp 8) rfl (some ad) (n + 5) (n + 5) rfl (lentAll l) (hk.below hW) hll.out) ?_
  simp only [Act.put, List.setIfInBounds_toArray, List.set_cons_zero, List.set_cons_succ]
  refine rg_take (v := ?v1_5) rfl rfl hS ?y1_5 ?_
  case y1_5 => intro W hW; (try subst hW); go_simp; try with_reducible rfl
  simp only [Act.put, List.setIfInBounds_toArray, List.set_cons_zero, List.set_cons_succ]
  refine rg_take (v := ?v1_7) rfl rfl hS ?y1_7 ?_
  case y1_7 => intro W hW; (try subst hW); go_simp; try with_reducible rfl
  simp only [Act.put, List.setIfInBounds_toArray, List.set_cons_zero, List.set_cons_succ]
  refine rg_take (v := ?v1_8) rfl rfl hS ?y1_8 ?_
  case y1_8 => intro W hW; (try subst hW); go_simp; try with_reducible rfl
  simp only [Act.put, List.setIfInBounds_toArray, List.set_cons_zero, List.set_cons_succ]
  refine rg_take (v := ?v1_9) rfl rfl hS ?y1_9 ?_
  case y1_9 => intro W hW; (try subst hW); go_simp; try with_reducible rfl
  simp only [Act.put, List.setIfInBounds_toArray, List.set_cons_zero, List.set_cons_succ]
  refine rg_one rfl rfl ?_; intro K hK; go_simp
  refine (lent A n c l _ (hr.below hS) HL.out hn).mono ?_
  rintro e w1 ⟨rfl, hb1, hw1, hs1⟩
  have hS1 : Below w.heap.size w w1 := hS.trans hw1
  refine hK _ _ (fun _ => hS1) ?_; clear hK
  refine rg_into (fun w' => Below w.heap.size w w' ∧ Blk w' w.drew.heap.size 5 (bvs (lentAll l))) (fun _ h => h.1) ?_
  have hS2 : Below w.heap.size w w1 ∧ Blk w1 w.drew.heap.size 5 (bvs (lentAll l)) := ⟨hS1, hb1⟩
  refine rg_take (v := ?v1_10) rfl rfl hS2 ?y1_10 ?_
  case y1_10 => intro W hW; (try subst hW); go_simp; try with_reducible rfl
  simp only [Act.put, List.setIfInBounds_toArray, List.set_cons_zero, List.set_cons_succ]
  refine rg_take rfl rfl hS2 (fun W hW => exec_bytes_string bt (.tmp 15) rfl (some ⟨w.drew.heap.size, 0, none⟩) (n + 5) (n + 5) rfl (lentAll l) (Rd.of_blk0 (es := []) (by simpa using hW.2)) hll.out) ?_
  simp only [Act.put, List.setIfInBounds_toArray, List.set_cons_zero, List.set_cons_succ]
  refine rg_take (v := ?v1_12) rfl rfl hS2 ?y1_12 ?_
  case y1_12 => intro W hW; (try subst hW); go_simp; try with_reducible rfl
  simp only [Act.put, List.setIfInBounds_toArray, List.set_cons_zero, List.set_cons_succ]
  refine rg_take (v := ?v1_13) rfl rfl hS2 ?y1_13 ?_
  case y1_13 => intro W hW; (try subst hW); go_simp; try with_reducible rfl
  simp only [Act.put, List.setIfInBounds_toArray, List.set_cons_zero, List.set_cons_succ]
  refine rg_take (v := ?v1_14) rfl rfl hS2 ?y1_14 ?_
  case y1_14 => intro W hW; (try subst hW); go_simp; try with_reducible rfl
  simp only [Act.put, List.setIfInBounds_toArray, List.set_cons_zero, List.set_cons_succ]
  refine rg_take (v := ?v1_15) rfl rfl hS2 ?y1_15 ?_
  case y1_15 => intro W hW; (try subst hW); go_simp; try with_reducible rfl
  simp only [Act.put, List.setIfInBounds_toArray, List.set_cons_zero, List.set_cons_succ]
  refine rg_take (v := ?v1_16) rfl rfl hS2 ?y1_16 ?_
  case y1_16 => intro W hW; (try subst hW); go_simp; try with_reducible rfl
  simp only [Act.put, List.setIfInBounds_toArray, List.set_cons_zero, List.set_cons_succ]
  refine rg_take (v := ?v1_17) rfl rfl hS2 ?y1_17 ?_
  case y1_17 => intro W hW; (try subst hW); go_simp; try with_reducible rfl
  simp only [Act.put, List.setIfInBounds_toArray, List.set_cons_zero, List.set_cons_succ]
  refine rg_take (v := ?v1_18) rfl rfl hS2 ?y1_18 ?_
  case y1_18 => intro W hW; (try subst hW); go_simp; try with_reducible rfl
  simp only [Act.put, List.setIfInBounds_toArray, List.set_cons_zero, List.set_cons_succ]
  refine rg_take (v := ?v1_19) rfl rfl hS2 ?y1_19 ?_
  case y1_19 => intro W hW; (try subst hW); go_simp; try with_reducible rfl
  simp only [Act.put, List.setIfInBounds_toArray, List.set_cons_zero, List.set_cons_succ]
  refine rg_take (v := ?v1_20) rfl rfl hS2 ?y1_20 ?_
  case y1_20 => intro W hW; (try subst hW); go_simp; try with_reducible rfl
  simp only [Act.put, List.setIfInBounds_toArray, List.set_cons_zero, List.set_cons_succ]
  refine rg_done (by kernel_rfl) ?_
  go_wp2
  go_ret
  exact ⟨rfl, hS1⟩
end Go.Proofs.Ytehbahobkgoapaa
