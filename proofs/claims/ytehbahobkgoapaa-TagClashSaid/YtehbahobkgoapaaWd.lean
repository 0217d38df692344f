/- The program's schedule of a block. -/
import Derived.Test.YtehbahobkgoapaaWc
import Derived.Test.YtehbahobkgoapaaPa
import Derived.Deep.Cut
import Derived.Deep.CutRange
namespace Go.Proofs.Ytehbahobkgoapaa
open Go Go.RowKit
set_option linter.unusedSimpArgs false
set_option linter.unusedVariables false

/-- Four bytes joined. -/
theorem word_or (a b c d : Nat) (ha : a < 256) (hb : b < 256) (hc : c < 256) (hd : d < 256) :
    (((a * 16777216 % 4294967296) ||| (b * 65536 % 4294967296)) ||| (c * 256 % 4294967296)) ||| d = a * 16777216 + b * 65536 + c * 256 + d := by
  rw [Nat.mod_eq_of_lt (by omega), Nat.mod_eq_of_lt (by omega), Nat.mod_eq_of_lt (by omega)]
  rw [nat_join 24 (a * 16777216) (b * 65536) (by omega) (by omega)]
  rw [nat_join 16 _ (c * 256) (by omega) (by omega), nat_join 8 _ d (by omega) (by omega)]
theorem first_set (b : List UInt8) (k : Nat) (hk : k < 16) : (first k b ++ zw (64 - k)).set k (wordOf b k) = first (k + 1) b ++ zw (64 - (k + 1)) := by
  rw [List.set_append_right _ _ (by rw [first_length]; omega), first_length, Nat.sub_self]
  unfold zw
  rw [show 64 - k = (64 - (k + 1)) + 1 by omega, List.replicate_succ, List.set_cons_zero, first, List.append_assoc]
  rfl
theorem ext_set (l : List Nat) (t n : Nat) (hl : l.length = t) (ht : t < 64) : (l ++ zw (64 - t)).set t n = (l ++ [n]) ++ zw (64 - (t + 1)) := by
  rw [List.set_append_right _ _ (by omega), hl, Nat.sub_self]
  unfold zw
  rw [show 64 - t = (64 - (t + 1)) + 1 by omega, List.replicate_succ, List.set_cons_zero, List.append_assoc]
  rfl
theorem ext_get (l z : List Nat) (i : Nat) (h : i < l.length) : (l ++ z)[i]? = some (l.getD i 0) := by
  rw [List.getElem?_append_left h, List.getD_eq_getElem?_getD, List.getElem?_eq_getElem h]
  rfl
theorem ext_get_lt (l : List Nat) (i : Nat) (hl : ∀ x ∈ l, x < 4294967296) : l.getD i 0 < 4294967296 := by
  rcases Nat.lt_or_ge i l.length with h | h
  · rw [List.getD_eq_getElem?_getD, List.getElem?_eq_getElem h]
    exact hl _ (List.getElem_mem h)
  · rw [List.getD_eq_getElem?_getD, List.getElem?_eq_none h]
    decide
theorem ext_zero (l : List Nat) : ext 0 l = l := rfl
theorem byte_get (b : List UInt8) (i : Nat) (h : i < b.length) : b[i]? = some (b.getD i 0) := by
  rw [List.getD_eq_getElem?_getD, List.getElem?_eq_getElem h]
  rfl

set_option maxRecDepth 100000 in
set_option maxHeartbeats 2000000 in
theorem schedule_any (b : List UInt8) (w : World) (hl : b.length = 64) :
    Calls Try.prog 135 #[arr8 b] w fun e w' => e = .returned (arrW (sched b)) ∧ Below w.heap.size w w' := by
  have HL := Lib.hid hl
  have b1 : Blk (w.alloc (.cells (bvs b).toArray 97)) w.heap.size 97 (bvs b) := Blk.new _ _ _
  have b2 : Blk ((w.alloc (.cells (bvs b).toArray 97)).alloc (.cells (wvs (zw 64)).toArray 176)) (w.heap.size + 1) 176 (wvs (zw 64)) := by
    have := Blk.new (w.alloc (.cells (bvs b).toArray 97)) 176 (wvs (zw 64))
    rwa [show (w.alloc (.cells (bvs b).toArray 97)).heap.size = w.heap.size + 1 by simp] at this
  have b3 : Blk (((w.alloc (.cells (bvs b).toArray 97)).alloc (.cells (wvs (zw 64)).toArray 176)).alloc (.cells (wvs (zw 64)).toArray 176)) (w.heap.size + 2) 176 (wvs (zw 64)) := by
    have := Blk.new ((w.alloc (.cells (bvs b).toArray 97)).alloc (.cells (wvs (zw 64)).toArray 176)) 176 (wvs (zw 64))
    rwa [show ((w.alloc (.cells (bvs b).toArray 97)).alloc (.cells (wvs (zw 64)).toArray 176)).heap.size = w.heap.size + 2 by simp] at this
  have hall := And.intro ((b1.alloc (.cells (wvs (zw 64)).toArray 176)).alloc (.cells (wvs (zw 64)).toArray 176)) (And.intro (b2.alloc (.cells (wvs (zw 64)).toArray 176)) (And.intro b3
    ((((Below.refl w.heap.size w).alloc (Nat.le_refl _) (.cells (bvs b).toArray 97)).alloc (by simp) (.cells (wvs (zw 64)).toArray 176)).alloc (by simp; omega) (.cells (wvs (zw 64)).toArray 176))))
  clear b1 b2 b3 hl
  have HSE := Lib.hid (sched_eq b)
  have HS64 := Lib.hid (sched_length b)
  generalize sched b = sb at *
  unfold arr8 arrW
  go_enter Try.func135, Try.ntmps135
  go_wp2_with fail
  generalize hW : World.alloc (World.alloc (World.alloc w _) _) _ = w0
  have h3 : Blk w0 w.heap.size 97 (bvs b) ∧ Blk w0 (w.heap.size + 1) 176 (wvs (zw 64)) ∧ Blk w0 (w.heap.size + 2) 176 (wvs (zw 64)) ∧ Below w.heap.size w w0 := by rw [← hW]; exact hall
  clear hall hW
  obtain ⟨c1, c2, c3, c4⟩ := h3
  go_loopw [10] (fun i wr => ∃ k : Nat, k ≤ 16 ∧ i = .int .i64 (k : Int) ∧ Blk wr w.heap.size 97 (bvs b) ∧ Blk wr (w.heap.size + 1) 176 (wvs (zw 64)) ∧ Blk wr (w.heap.size + 2) 176 (wvs (first k b ++ zw (64 - k))) ∧ Below w.heap.size w wr) (fun i _ => 16 - (intOf i).toNat)
  case atStart => exact ⟨0, by omega, by go_num, c1, c2, c3, c4⟩
  case round =>
    obtain ⟨k, hk, rfl, d1, d2, d3, d4⟩ := hrel
    by_cases hlt : k < 16
    · have hk0 : (k : Int) < 16 := by omega
      go_upto_region 5 with fail
      have e0 := Lib.hid (byte_get b (4 * k) (by rw [HL.out]; omega))
      have e1 := Lib.hid (byte_get b (4 * k + 1) (by rw [HL.out]; omega))
      have e2 := Lib.hid (byte_get b (4 * k + 2) (by rw [HL.out]; omega))
      have e3 := Lib.hid (byte_get b (4 * k + 3) (by rw [HL.out]; omega))
      refine rg_begin (fun W => W = wr.drew) [31] [31] [0, 1, 2, 3, 4, 5, 6, 7, 8, 9, 10, 11, 12, 13, 14, 15, 16, 17, 18, 19, 20, 21, 22, 23, 24, 25, 26, 27, 28, 29, 30, 31] 0 mixed (by kernel_rfl) (fun _ _ _ _ e hh => ⟨e.symm.trans hh.1, hh.2⟩) ?_
      simp only [pick, List.map_cons, List.map_nil, List.getD_cons_zero, List.getD_cons_succ]
      have hS : (fun W => W = wr.drew) _ := rfl
      refine rg_take (v := ?v1_0) rfl rfl hS ?y1_0 ?_
      case y1_0 => intro W hW; (try subst hW); go_simp; try with_reducible rfl
      simp only [Act.put, List.setIfInBounds_toArray, List.set_cons_zero, List.set_cons_succ]
      refine rg_take (v := ?v1_1) rfl rfl hS ?y1_1 ?_
      case y1_1 => intro W hW; (try subst hW); go_simp; try with_reducible rfl
      simp only [Act.put, List.setIfInBounds_toArray, List.set_cons_zero, List.set_cons_succ]
      refine rg_take rfl rfl hS (fun W hW => exec_imul _ _ rfl _ _ (((4 * k : Nat) : Int)) rfl rfl (by omega) (by omega)) ?_
      simp only [Act.put, List.setIfInBounds_toArray, List.set_cons_zero, List.set_cons_succ]
      refine rg_take rfl rfl hS (fun W hW => exec_ia0 ia97 _ _ rfl _ _ _ rfl rfl (by omega)) ?_
      simp only [Act.put, List.setIfInBounds_toArray, List.set_cons_zero, List.set_cons_succ]
      refine rg_take rfl rfl hS (fun W hW => exec_bload w5 _ rfl _ _ _ _ _ rfl ((by subst hW; exact d1.drew)) (e0.out)) ?_
      simp only [Act.put, List.setIfInBounds_toArray, List.set_cons_zero, List.set_cons_succ]
      refine rg_take rfl rfl hS (fun W hW => exec_cast Try.underlying5 Try.underlying94 _ rfl _ rfl (by with_reducible repeat' first | assumption | exact ad_lt _ _ | exact u8_w32 _ | exact not_lt32 _ | exact mod_lt32 _ | refine xor_lt32 ?_ ?_ | refine or_lt32 ?_ ?_ | refine and_lt32 ?_ | refine rotr_lt _ _ ?_ | refine div_lt32 _ ?_)) ?_
      simp only [Act.put, List.setIfInBounds_toArray, List.set_cons_zero, List.set_cons_succ]
      refine rg_take rfl rfl hS (fun W hW => exec_wshl _ _ rfl _ 24 _ rfl rfl (by decide) 16777216 rfl) ?_
      simp only [Act.put, List.setIfInBounds_toArray, List.set_cons_zero, List.set_cons_succ]
      refine rg_take (v := ?v1_7) rfl rfl hS ?y1_7 ?_
      case y1_7 => intro W hW; (try subst hW); go_simp; try with_reducible rfl
      simp only [Act.put, List.setIfInBounds_toArray, List.set_cons_zero, List.set_cons_succ]
      refine rg_take rfl rfl hS (fun W hW => exec_imul _ _ rfl _ _ (((4 * k : Nat) : Int)) rfl rfl (by omega) (by omega)) ?_
      simp only [Act.put, List.setIfInBounds_toArray, List.set_cons_zero, List.set_cons_succ]
      refine rg_take rfl rfl hS (fun W hW => exec_iadd _ _ rfl _ _ (((4 * k + 1 : Nat) : Int)) rfl rfl (by omega) (by omega)) ?_
      simp only [Act.put, List.setIfInBounds_toArray, List.set_cons_zero, List.set_cons_succ]
      refine rg_take rfl rfl hS (fun W hW => exec_ia0 ia97 _ _ rfl _ _ _ rfl rfl (by omega)) ?_
      simp only [Act.put, List.setIfInBounds_toArray, List.set_cons_zero, List.set_cons_succ]
      refine rg_take rfl rfl hS (fun W hW => exec_bload w5 _ rfl _ _ _ _ _ rfl ((by subst hW; exact d1.drew)) (e1.out)) ?_
      simp only [Act.put, List.setIfInBounds_toArray, List.set_cons_zero, List.set_cons_succ]
      refine rg_take rfl rfl hS (fun W hW => exec_cast Try.underlying5 Try.underlying94 _ rfl _ rfl (by with_reducible repeat' first | assumption | exact ad_lt _ _ | exact u8_w32 _ | exact not_lt32 _ | exact mod_lt32 _ | refine xor_lt32 ?_ ?_ | refine or_lt32 ?_ ?_ | refine and_lt32 ?_ | refine rotr_lt _ _ ?_ | refine div_lt32 _ ?_)) ?_
      simp only [Act.put, List.setIfInBounds_toArray, List.set_cons_zero, List.set_cons_succ]
      refine rg_take rfl rfl hS (fun W hW => exec_wshl _ _ rfl _ 16 _ rfl rfl (by decide) 65536 rfl) ?_
      simp only [Act.put, List.setIfInBounds_toArray, List.set_cons_zero, List.set_cons_succ]
      refine rg_take rfl rfl hS (fun W hW => exec_wor _ _ rfl _ _ rfl rfl (by with_reducible repeat' first | assumption | exact ad_lt _ _ | exact u8_w32 _ | exact not_lt32 _ | exact mod_lt32 _ | refine xor_lt32 ?_ ?_ | refine or_lt32 ?_ ?_ | refine and_lt32 ?_ | refine rotr_lt _ _ ?_ | refine div_lt32 _ ?_) (by with_reducible repeat' first | assumption | exact ad_lt _ _ | exact u8_w32 _ | exact not_lt32 _ | exact mod_lt32 _ | refine xor_lt32 ?_ ?_ | refine or_lt32 ?_ ?_ | refine and_lt32 ?_ | refine rotr_lt _ _ ?_ | refine div_lt32 _ ?_)) ?_
      simp only [Act.put, List.setIfInBounds_toArray, List.set_cons_zero, List.set_cons_succ]
      refine rg_take (v := ?v1_15) rfl rfl hS ?y1_15 ?_
      case y1_15 => intro W hW; (try subst hW); go_simp; try with_reducible rfl
      simp only [Act.put, List.setIfInBounds_toArray, List.set_cons_zero, List.set_cons_succ]
      refine rg_take rfl rfl hS (fun W hW => exec_imul _ _ rfl _ _ (((4 * k : Nat) : Int)) rfl rfl (by omega) (by omega)) ?_
      simp only [Act.put, List.setIfInBounds_toArray, List.set_cons_zero, List.set_cons_succ]
      refine rg_take rfl rfl hS (fun W hW => exec_iadd _ _ rfl _ _ (((4 * k + 2 : Nat) : Int)) rfl rfl (by omega) (by omega)) ?_
      simp only [Act.put, List.setIfInBounds_toArray, List.set_cons_zero, List.set_cons_succ]
      refine rg_take rfl rfl hS (fun W hW => exec_ia0 ia97 _ _ rfl _ _ _ rfl rfl (by omega)) ?_
      simp only [Act.put, List.setIfInBounds_toArray, List.set_cons_zero, List.set_cons_succ]
      refine rg_take rfl rfl hS (fun W hW => exec_bload w5 _ rfl _ _ _ _ _ rfl ((by subst hW; exact d1.drew)) (e2.out)) ?_
      simp only [Act.put, List.setIfInBounds_toArray, List.set_cons_zero, List.set_cons_succ]
      refine rg_take rfl rfl hS (fun W hW => exec_cast Try.underlying5 Try.underlying94 _ rfl _ rfl (by with_reducible repeat' first | assumption | exact ad_lt _ _ | exact u8_w32 _ | exact not_lt32 _ | exact mod_lt32 _ | refine xor_lt32 ?_ ?_ | refine or_lt32 ?_ ?_ | refine and_lt32 ?_ | refine rotr_lt _ _ ?_ | refine div_lt32 _ ?_)) ?_
      simp only [Act.put, List.setIfInBounds_toArray, List.set_cons_zero, List.set_cons_succ]
      refine rg_take rfl rfl hS (fun W hW => exec_wshl _ _ rfl _ 8 _ rfl rfl (by decide) 256 rfl) ?_
      simp only [Act.put, List.setIfInBounds_toArray, List.set_cons_zero, List.set_cons_succ]
      refine rg_take rfl rfl hS (fun W hW => exec_wor _ _ rfl _ _ rfl rfl (by with_reducible repeat' first | assumption | exact ad_lt _ _ | exact u8_w32 _ | exact not_lt32 _ | exact mod_lt32 _ | refine xor_lt32 ?_ ?_ | refine or_lt32 ?_ ?_ | refine and_lt32 ?_ | refine rotr_lt _ _ ?_ | refine div_lt32 _ ?_) (by with_reducible repeat' first | assumption | exact ad_lt _ _ | exact u8_w32 _ | exact not_lt32 _ | exact mod_lt32 _ | refine xor_lt32 ?_ ?_ | refine or_lt32 ?_ ?_ | refine and_lt32 ?_ | refine rotr_lt _ _ ?_ | refine div_lt32 _ ?_)) ?_
      simp only [Act.put, List.setIfInBounds_toArray, List.set_cons_zero, List.set_cons_succ]
      refine rg_take (v := ?v1_23) rfl rfl hS ?y1_23 ?_
      case y1_23 => intro W hW; (try subst hW); go_simp; try with_reducible rfl
      simp only [Act.put, List.setIfInBounds_toArray, List.set_cons_zero, List.set_cons_succ]
      refine rg_take rfl rfl hS (fun W hW => exec_imul _ _ rfl _ _ (((4 * k : Nat) : Int)) rfl rfl (by omega) (by omega)) ?_
      simp only [Act.put, List.setIfInBounds_toArray, List.set_cons_zero, List.set_cons_succ]
      refine rg_take rfl rfl hS (fun W hW => exec_iadd _ _ rfl _ _ (((4 * k + 3 : Nat) : Int)) rfl rfl (by omega) (by omega)) ?_
      simp only [Act.put, List.setIfInBounds_toArray, List.set_cons_zero, List.set_cons_succ]
      refine rg_take rfl rfl hS (fun W hW => exec_ia0 ia97 _ _ rfl _ _ _ rfl rfl (by omega)) ?_
      simp only [Act.put, List.setIfInBounds_toArray, List.set_cons_zero, List.set_cons_succ]
      refine rg_take rfl rfl hS (fun W hW => exec_bload w5 _ rfl _ _ _ _ _ rfl ((by subst hW; exact d1.drew)) (e3.out)) ?_
      simp only [Act.put, List.setIfInBounds_toArray, List.set_cons_zero, List.set_cons_succ]
      refine rg_take rfl rfl hS (fun W hW => exec_cast Try.underlying5 Try.underlying94 _ rfl _ rfl (by with_reducible repeat' first | assumption | exact ad_lt _ _ | exact u8_w32 _ | exact not_lt32 _ | exact mod_lt32 _ | refine xor_lt32 ?_ ?_ | refine or_lt32 ?_ ?_ | refine and_lt32 ?_ | refine rotr_lt _ _ ?_ | refine div_lt32 _ ?_)) ?_
      simp only [Act.put, List.setIfInBounds_toArray, List.set_cons_zero, List.set_cons_succ]
      refine rg_take rfl rfl hS (fun W hW => exec_wor _ _ rfl _ _ rfl rfl (by with_reducible repeat' first | assumption | exact ad_lt _ _ | exact u8_w32 _ | exact not_lt32 _ | exact mod_lt32 _ | refine xor_lt32 ?_ ?_ | refine or_lt32 ?_ ?_ | refine and_lt32 ?_ | refine rotr_lt _ _ ?_ | refine div_lt32 _ ?_) (by with_reducible repeat' first | assumption | exact ad_lt _ _ | exact u8_w32 _ | exact not_lt32 _ | exact mod_lt32 _ | refine xor_lt32 ?_ ?_ | refine or_lt32 ?_ ?_ | refine and_lt32 ?_ | refine rotr_lt _ _ ?_ | refine div_lt32 _ ?_)) ?_
      simp only [Act.put, List.setIfInBounds_toArray, List.set_cons_zero, List.set_cons_succ]
      refine rg_take rfl rfl hS (fun W hW => exec_ia0 ia176 _ _ rfl _ _ _ rfl rfl (by omega)) ?_
      simp only [Act.put, List.setIfInBounds_toArray, List.set_cons_zero, List.set_cons_succ]
      refine rg_one rfl rfl ?_; intro K hK
      refine wp_store_one one94 _ _ rfl _ _ _ _ _ rfl rfl rfl d3.drew (by rw [wvs_length]; simp [first_length, zw_length]; omega) ?_
      rw [word_or _ _ _ _ (b.getD (4 * k) 0).toNat_lt (b.getD (4 * k + 1) 0).toNat_lt (b.getD (4 * k + 2) 0).toNat_lt (b.getD (4 * k + 3) 0).toNat_lt]
      have d3' : Blk ((wr.drew).setCell ⟨w.heap.size + 2, k, none⟩ (.int .u32 ((wordOf b k : Nat) : Int))) (w.heap.size + 2) 176 (wvs (first (k + 1) b ++ zw (64 - (k + 1)))) := by
        have := (Blk.drew d3).setw (i := k) (n := wordOf b k)
        rwa [first_set b k hlt] at this
      have d1' := (Blk.drew d1).far (p := ⟨w.heap.size + 2, k, none⟩) (by simp) (.int .u32 ((wordOf b k : Nat) : Int))
      have d2' := (Blk.drew d2).far (p := ⟨w.heap.size + 2, k, none⟩) (by simp) (.int .u32 ((wordOf b k : Nat) : Int))
      have d4' := (Below.drew d4).setCell (p := ⟨w.heap.size + 2, k, none⟩) (by simp) (.int .u32 ((wordOf b k : Nat) : Int))
      refine hK _ _ (fun h => by cases h) ?_; clear hK
      refine rg_done (by kernel_rfl) ?_
      go_wp2_with fail
      go_roundw
      case rel => exact ⟨k + 1, by omega, by go_num, d1', d2', d3', d4'⟩
      case measure => simp only [intOf]; omega
    · obtain rfl : k = 16 := by omega
      clear hlt hk c1 c2 c3 c4 w0
      go_wp2_with fail
      go_loopw [5] (fun i wr => ∃ (t : Nat) (cur : List Nat), 16 ≤ t ∧ t ≤ 64 ∧ i = .int .i64 (t : Int) ∧ Hid (cur.length = t) ∧ Hid (ext (64 - t) cur = sb) ∧ (∀ x ∈ cur, x < 4294967296) ∧
        Blk wr (w.heap.size + 1) 176 (wvs (zw 64)) ∧ Blk wr (w.heap.size + 2) 176 (wvs (cur ++ zw (64 - t))) ∧ Below w.heap.size w wr) (fun i _ => 64 - (intOf i).toNat)
      case atStart => exact ⟨16, first 16 b, by omega, by omega, by go_num, Lib.hid (first_length _ _), Lib.hid HSE.out.symm, first_lt _ _, d2, d3, d4⟩
      case round =>
        clear d1 d2 d3 d4
        obtain ⟨t, cur, h16, h64, rfl, HC, HE, hlt, d2, d3, d4⟩ := hrel
        by_cases htl : t < 64
        · skip
          obtain ⟨x, hx⟩ : ∃ x, x = cur.getD (t - 2) 0 := ⟨_, rfl⟩
          obtain ⟨y, hy⟩ : ∃ x, x = cur.getD (t - 15) 0 := ⟨_, rfl⟩
          obtain ⟨p, hp⟩ : ∃ x, x = cur.getD (t - 7) 0 := ⟨_, rfl⟩
          obtain ⟨q, hq⟩ : ∃ x, x = cur.getD (t - 16) 0 := ⟨_, rfl⟩
          have bx : x < 4294967296 := by rw [hx]; exact ext_get_lt _ _ hlt
          have by_ : y < 4294967296 := by rw [hy]; exact ext_get_lt _ _ hlt
          have ex : Hid ((cur ++ zw (64 - t))[t - 2]? = some x) := Lib.hid (by rw [hx]; exact ext_get _ _ _ (by rw [HC.out]; omega))
          have ey : Hid ((cur ++ zw (64 - t))[t - 15]? = some y) := Lib.hid (by rw [hy]; exact ext_get _ _ _ (by rw [HC.out]; omega))
          have ep : Hid ((cur ++ zw (64 - t))[t - 7]? = some p) := Lib.hid (by rw [hp]; exact ext_get _ _ _ (by rw [HC.out]; omega))
          have eq : Hid ((cur ++ zw (64 - t))[t - 16]? = some q) := Lib.hid (by rw [hq]; exact ext_get _ _ _ (by rw [HC.out]; omega))
          have HN : Hid (nw cur = ad (ad (ad (sg1 x) p) (sg0 y)) q) := Lib.hid (by unfold nw; rw [HC.out, hx, hy, hp, hq])
          have hlt' : ∀ z ∈ cur ++ [nw cur], z < 4294967296 := by
            intro z hz
            rcases List.mem_append.1 hz with hz | hz
            · exact hlt z hz
            · rw [List.mem_singleton.1 hz]; exact ad_lt _ _
          have HE' : Hid (ext (64 - (t + 1)) (cur ++ [nw cur]) = sb) := Lib.hid (by rw [← ext_succ, show 64 - (t + 1) + 1 = 64 - t by omega]; exact HE.out)
          have HC' : Hid ((cur ++ [nw cur]).length = t + 1) := Lib.hid (by rw [List.length_append, HC.out]; rfl)
          have HS : Hid ((cur ++ zw (64 - t)).set t (nw cur) = (cur ++ [nw cur]) ++ zw (64 - (t + 1))) := Lib.hid (ext_set _ _ _ HC.out htl)
          have HLen : Hid (t < (wvs (cur ++ zw (64 - t))).length) := Lib.hid (by rw [wvs_length, List.length_append, HC.out, zw_length]; omega)
          have X17 := fun u => Lib.hid (right_any x 15 17 17 u bx (by decide +kernel) (by decide) rfl)
          have X19 := fun u => Lib.hid (right_any x 13 19 19 u bx (by decide +kernel) (by decide) rfl)
          have Y7 := fun u => Lib.hid (right_any y 25 7 7 u by_ (by decide +kernel) (by decide) rfl)
          have Y18 := fun u => Lib.hid (right_any y 14 18 18 u by_ (by decide +kernel) (by decide) rfl)
          clear hx hy hp hq HE HC hlt
          generalize nw cur = nn at *
          generalize cur ++ zw (64 - t) = cc at *
          generalize cur ++ [nn] = cn at *
          go_upto_region 10 with fail
          refine rg_begin (fun W => W = wr.drew) [] [] [0, 1, 2, 3, 4, 5, 6, 7, 8, 9] 0 mixed (by kernel_rfl) (fun _ _ _ _ e hh => ⟨e.symm.trans hh.1, hh.2⟩) ?_
          simp only [pick, List.map_cons, List.map_nil, List.getD_cons_zero, List.getD_cons_succ]
          have hS : (fun W => W = wr.drew) _ := rfl
          refine rg_take (v := ?v2_0) rfl rfl hS ?y2_0 ?_
          case y2_0 => intro W hW; (try subst hW); go_simp; try with_reducible rfl
          simp only [Act.put, List.setIfInBounds_toArray, List.set_cons_zero, List.set_cons_succ]
          refine rg_take rfl rfl hS (fun W hW => exec_isub _ _ rfl _ _ (((t - 2 : Nat) : Int)) rfl rfl (by omega) (by omega)) ?_
          simp only [Act.put, List.setIfInBounds_toArray, List.set_cons_zero, List.set_cons_succ]
          refine rg_take rfl rfl hS (fun W hW => exec_ia0 ia176 _ _ rfl _ _ _ rfl rfl (by omega)) ?_
          simp only [Act.put, List.setIfInBounds_toArray, List.set_cons_zero, List.set_cons_succ]
          refine rg_take rfl rfl hS (fun W hW => exec_wload w94 _ rfl _ _ _ _ _ rfl ((by subst hW; exact d3.drew)) (ex.out)) ?_
          simp only [Act.put, List.setIfInBounds_toArray, List.set_cons_zero, List.set_cons_succ]
          refine rg_take (v := ?v2_4) rfl rfl hS ?y2_4 ?_
          case y2_4 => intro W hW; (try subst hW); go_simp; try with_reducible rfl
          simp only [Act.put, List.setIfInBounds_toArray, List.set_cons_zero, List.set_cons_succ]
          refine rg_take rfl rfl hS (fun W hW => exec_isub _ _ rfl _ _ (((t - 15 : Nat) : Int)) rfl rfl (by omega) (by omega)) ?_
          simp only [Act.put, List.setIfInBounds_toArray, List.set_cons_zero, List.set_cons_succ]
          refine rg_take rfl rfl hS (fun W hW => exec_ia0 ia176 _ _ rfl _ _ _ rfl rfl (by omega)) ?_
          simp only [Act.put, List.setIfInBounds_toArray, List.set_cons_zero, List.set_cons_succ]
          refine rg_take rfl rfl hS (fun W hW => exec_wload w94 _ rfl _ _ _ _ _ rfl ((by subst hW; exact d3.drew)) (ey.out)) ?_
          simp only [Act.put, List.setIfInBounds_toArray, List.set_cons_zero, List.set_cons_succ]
          refine rg_take (v := ?v2_8) rfl rfl hS ?y2_8 ?_
          case y2_8 => intro W hW; (try subst hW); go_simp; try with_reducible rfl
          simp only [Act.put, List.setIfInBounds_toArray, List.set_cons_zero, List.set_cons_succ]
          refine rg_take (v := ?v2_9) rfl rfl hS ?y2_9 ?_
          case y2_9 => intro W hW; (try subst hW); go_simp; try with_reducible rfl
          simp only [Act.put, List.setIfInBounds_toArray, List.set_cons_zero, List.set_cons_succ]
          refine rg_done (by kernel_rfl) ?_
          go_upto_region 13 with (first
            | ((with_reducible refine at_dst 61 ?_); refine wpList_yield rfl _ (exec_wxor _ _ rfl _ _ rfl rfl (by with_reducible repeat' first | assumption | exact ad_lt _ _ | exact u8_w32 _ | exact not_lt32 _ | exact mod_lt32 _ | refine xor_lt32 ?_ ?_ | refine or_lt32 ?_ ?_ | refine and_lt32 ?_ | refine rotr_lt _ _ ?_ | refine div_lt32 _ ?_) (by with_reducible repeat' first | assumption | exact ad_lt _ _ | exact u8_w32 _ | exact not_lt32 _ | exact mod_lt32 _ | refine xor_lt32 ?_ ?_ | refine or_lt32 ?_ ?_ | refine and_lt32 ?_ | refine rotr_lt _ _ ?_ | refine div_lt32 _ ?_)) ?_)
            | ((with_reducible refine at_dst 63 ?_); refine wpList_yield rfl _ (exec_wshr _ _ rfl _ 10 _ rfl rfl (by decide) 1024 rfl) ?_)
            | ((with_reducible refine at_dst 64 ?_); refine wpList_yield rfl _ (exec_wxor _ _ rfl _ _ rfl rfl (by with_reducible repeat' first | assumption | exact ad_lt _ _ | exact u8_w32 _ | exact not_lt32 _ | exact mod_lt32 _ | refine xor_lt32 ?_ ?_ | refine or_lt32 ?_ ?_ | refine and_lt32 ?_ | refine rotr_lt _ _ ?_ | refine div_lt32 _ ?_) (by with_reducible repeat' first | assumption | exact ad_lt _ _ | exact u8_w32 _ | exact not_lt32 _ | exact mod_lt32 _ | refine xor_lt32 ?_ ?_ | refine or_lt32 ?_ ?_ | refine and_lt32 ?_ | refine rotr_lt _ _ ?_ | refine div_lt32 _ ?_)) ?_)
            | ((with_reducible refine at_dst 69 ?_); refine wpList_yield rfl _ (exec_wxor _ _ rfl _ _ rfl rfl (by with_reducible repeat' first | assumption | exact ad_lt _ _ | exact u8_w32 _ | exact not_lt32 _ | exact mod_lt32 _ | refine xor_lt32 ?_ ?_ | refine or_lt32 ?_ ?_ | refine and_lt32 ?_ | refine rotr_lt _ _ ?_ | refine div_lt32 _ ?_) (by with_reducible repeat' first | assumption | exact ad_lt _ _ | exact u8_w32 _ | exact not_lt32 _ | exact mod_lt32 _ | refine xor_lt32 ?_ ?_ | refine or_lt32 ?_ ?_ | refine and_lt32 ?_ | refine rotr_lt _ _ ?_ | refine div_lt32 _ ?_)) ?_)
            | ((with_reducible refine at_dst 71 ?_); refine wpList_yield rfl _ (exec_wshr _ _ rfl _ 3 _ rfl rfl (by decide) 8 rfl) ?_)
            | ((with_reducible refine at_dst 72 ?_); refine wpList_yield rfl _ (exec_wxor _ _ rfl _ _ rfl rfl (by with_reducible repeat' first | assumption | exact ad_lt _ _ | exact u8_w32 _ | exact not_lt32 _ | exact mod_lt32 _ | refine xor_lt32 ?_ ?_ | refine or_lt32 ?_ ?_ | refine and_lt32 ?_ | refine rotr_lt _ _ ?_ | refine div_lt32 _ ?_) (by with_reducible repeat' first | assumption | exact ad_lt _ _ | exact u8_w32 _ | exact not_lt32 _ | exact mod_lt32 _ | refine xor_lt32 ?_ ?_ | refine or_lt32 ?_ ?_ | refine and_lt32 ?_ | refine rotr_lt _ _ ?_ | refine div_lt32 _ ?_)) ?_)
            | (go_at_call 137; with_reducible refine (X17 _).out.mono ?_; rintro e _ ⟨rfl, rfl⟩)
            | (go_at_call 137; with_reducible refine (X19 _).out.mono ?_; rintro e _ ⟨rfl, rfl⟩)
            | (go_at_call 137; with_reducible refine (Y7 _).out.mono ?_; rintro e _ ⟨rfl, rfl⟩)
            | (go_at_call 137; with_reducible refine (Y18 _).out.mono ?_; rintro e _ ⟨rfl, rfl⟩))
          refine rg_begin (fun W => W = wr.drew.drew) [15] [15] [0, 1, 2, 3, 4, 5, 6, 7, 8, 9, 10, 11, 12, 13, 14, 15] 0 mixed (by kernel_rfl) (fun _ _ _ _ e hh => ⟨e.symm.trans hh.1, hh.2⟩) ?_
          simp only [pick, List.map_cons, List.map_nil, List.getD_cons_zero, List.getD_cons_succ]
          have hS2 : (fun W => W = wr.drew.drew) _ := rfl
          refine rg_take (v := ?v3_0) rfl rfl hS2 ?y3_0 ?_
          case y3_0 => intro W hW; (try subst hW); go_simp; try with_reducible rfl
          simp only [Act.put, List.setIfInBounds_toArray, List.set_cons_zero, List.set_cons_succ]
          refine rg_take (v := ?v3_1) rfl rfl hS2 ?y3_1 ?_
          case y3_1 => intro W hW; (try subst hW); go_simp; try with_reducible rfl
          simp only [Act.put, List.setIfInBounds_toArray, List.set_cons_zero, List.set_cons_succ]
          refine rg_take (v := ?v3_2) rfl rfl hS2 ?y3_2 ?_
          case y3_2 => intro W hW; (try subst hW); go_simp; try with_reducible rfl
          simp only [Act.put, List.setIfInBounds_toArray, List.set_cons_zero, List.set_cons_succ]
          refine rg_take rfl rfl hS2 (fun W hW => exec_isub _ _ rfl _ _ (((t - 7 : Nat) : Int)) rfl rfl (by omega) (by omega)) ?_
          simp only [Act.put, List.setIfInBounds_toArray, List.set_cons_zero, List.set_cons_succ]
          refine rg_take rfl rfl hS2 (fun W hW => exec_ia0 ia176 _ _ rfl _ _ _ rfl rfl (by omega)) ?_
          simp only [Act.put, List.setIfInBounds_toArray, List.set_cons_zero, List.set_cons_succ]
          refine rg_take rfl rfl hS2 (fun W hW => exec_wload w94 _ rfl _ _ _ _ _ rfl ((by subst hW; exact d3.drew.drew)) (ep.out)) ?_
          simp only [Act.put, List.setIfInBounds_toArray, List.set_cons_zero, List.set_cons_succ]
          refine rg_take rfl rfl hS2 (fun W hW => exec_wadd _ _ rfl _ _ rfl rfl) ?_
          simp only [Act.put, List.setIfInBounds_toArray, List.set_cons_zero, List.set_cons_succ]
          refine rg_take (v := ?v3_7) rfl rfl hS2 ?y3_7 ?_
          case y3_7 => intro W hW; (try subst hW); go_simp; try with_reducible rfl
          simp only [Act.put, List.setIfInBounds_toArray, List.set_cons_zero, List.set_cons_succ]
          refine rg_take rfl rfl hS2 (fun W hW => exec_wadd _ _ rfl _ _ rfl rfl) ?_
          simp only [Act.put, List.setIfInBounds_toArray, List.set_cons_zero, List.set_cons_succ]
          refine rg_take (v := ?v3_9) rfl rfl hS2 ?y3_9 ?_
          case y3_9 => intro W hW; (try subst hW); go_simp; try with_reducible rfl
          simp only [Act.put, List.setIfInBounds_toArray, List.set_cons_zero, List.set_cons_succ]
          refine rg_take rfl rfl hS2 (fun W hW => exec_isub _ _ rfl _ _ (((t - 16 : Nat) : Int)) rfl rfl (by omega) (by omega)) ?_
          simp only [Act.put, List.setIfInBounds_toArray, List.set_cons_zero, List.set_cons_succ]
          refine rg_take rfl rfl hS2 (fun W hW => exec_ia0 ia176 _ _ rfl _ _ _ rfl rfl (by omega)) ?_
          simp only [Act.put, List.setIfInBounds_toArray, List.set_cons_zero, List.set_cons_succ]
          refine rg_take rfl rfl hS2 (fun W hW => exec_wload w94 _ rfl _ _ _ _ _ rfl ((by subst hW; exact d3.drew.drew)) (eq.out)) ?_
          simp only [Act.put, List.setIfInBounds_toArray, List.set_cons_zero, List.set_cons_succ]
          refine rg_take rfl rfl hS2 (fun W hW => exec_wadd _ _ rfl _ _ rfl rfl) ?_
          simp only [Act.put, List.setIfInBounds_toArray, List.set_cons_zero, List.set_cons_succ]
          refine rg_take rfl rfl hS2 (fun W hW => exec_ia0 ia176 _ _ rfl _ _ _ rfl rfl (by omega)) ?_
          simp only [Act.put, List.setIfInBounds_toArray, List.set_cons_zero, List.set_cons_succ]
          refine rg_one rfl rfl ?_; intro K hK
          refine wp_store_one one94 _ _ rfl _ _ _ _ _ rfl rfl rfl d3.drew.drew HLen.out ?_
          have d3' : Blk ((wr.drew.drew).setCell ⟨w.heap.size + 2, t, none⟩ (.int .u32 ((nn : Nat) : Int))) (w.heap.size + 2) 176 (wvs (cn ++ zw (64 - (t + 1)))) := by
            have := (Blk.drew (Blk.drew d3)).setw (i := t) (n := nn)
            rwa [HS.out] at this
          have d2' := (Blk.drew (Blk.drew d2)).far (p := ⟨w.heap.size + 2, t, none⟩) (by simp) (.int .u32 ((nn : Nat) : Int))
          have d4' := (Below.drew (Below.drew d4)).setCell (p := ⟨w.heap.size + 2, t, none⟩) (by simp) (.int .u32 ((nn : Nat) : Int))
          rw [show ad (ad (ad (rotr x 17 ^^^ rotr x 19 ^^^ x / 1024) p) (rotr y 7 ^^^ rotr y 18 ^^^ y / 8)) q = nn from HN.out.symm]
          refine hK _ _ (fun h => by cases h) ?_; clear hK
          refine rg_done (by kernel_rfl) ?_
          go_wp2_with fail
          go_roundw
          case rel => exact ⟨t + 1, by omega, by omega, by go_num, cn, HC', HE', hlt', d2', d3', d4'⟩
          case measure => simp only [intOf]; omega
        · obtain rfl : t = 64 := by omega
          have HE2 : Hid (cur = sb) := Lib.hid (by have h := HE.out; rw [Nat.sub_self, ext_zero] at h; exact h)
          have d3' : Blk wr (w.heap.size + 2) 176 (wvs sb) := by
            rw [Nat.sub_self, HE2.out, show zw 0 = [] from rfl, List.append_nil] at d3
            exact d3
          clear HE HE2 HC hlt d3 HSE
          go_wp2_with (first
            | ((with_reducible refine at_dst 88 ?_); refine wpList_yield rfl _ (exec_load_agg at176 (.tmp 3) rfl _ 176 (wvs sb) rfl d3' (by rw [wvs_length]; exact HS64.out)) ?_)
            | ((with_reducible refine at_op (Op.store 176 (.tmp 2) (.tmp 88)) ?_); refine wpList_store_at at176.i rfl (.tmp 2) (.tmp 88) rfl (w.heap.size + 1) 0 176 (wvs (zw 64)) (wvs sb) rfl rfl d2 (by rw [wvs_length]; exact HS64.out) (by rw [wvs_length, zw_length]; omega) (wvs_one _) ?_; intro w1 hb1 hg1 hs1))
          (try simp only [Exit.inBlock, Exit.then])
          rw [splice_all _ _ (by rw [wvs_length, wvs_length, zw_length]; exact HS64.out.symm)] at hb1
          refine bodyPost_ret (ret_cell rfl at176 _ _ (w.heap.size + 1) 176 (wvs sb) rfl hb1 (by rw [wvs_length]; exact HS64.out)) rfl ?_
          exact ⟨rfl, d4.grown hg1 d4.size (by intro k hk; cases hk; omega)⟩
end Go.Proofs.Ytehbahobkgoapaa
