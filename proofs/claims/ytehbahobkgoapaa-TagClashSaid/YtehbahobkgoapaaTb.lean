/- Contracts of the reference's digests of tagged texts, and of entries. -/
import Derived.Test.YtehbahobkgoapaaTc
namespace Go.Proofs.Ytehbahobkgoapaa
open Go Go.RowKit
set_option linter.unusedSimpArgs false
set_option linter.unusedVariables false

theorem rsum_tx (A : Option Addr) (n c : Nat) (l : List UInt8) (w : World) (h : Tx w A n c l) (hn : n ≤ 140737488351232) : Calls Try.prog 80 #[.slice A n c] w fun e w' => e = .returned (arr8 (shaL l)) ∧ Below w.heap.size w w' :=
  rsum_any A n c l w h.rd h.len hn

set_option maxRecDepth 100000 in
set_option maxHeartbeats 1000000 in
theorem rof_any (t : UInt8) (A : Option Addr) (n c : Nat) (vs : List Value) (ls : List (List UInt8)) (w : World) (hl : ls.length = n) (hr : Rd w A vs) (ha : AllRd w vs ls) (hn : n ≤ 1099511627776) (hb : ls.flatten.length + 1 ≤ 140737488351232) :
    Calls Try.prog 89 #[.int .u8 (t.toNat : Int), .slice A n c] w fun e w' => e = .returned (arr8 (shaL (t :: ls.flatten))) ∧ Below w.heap.size w w' := by
  have hbz : Blk (w.alloc (.cells (bvs (zb 32)).toArray 22)) w.heap.size 22 (bvs (zb 32)) := Blk.new _ _ _
  have hw0 : Below w.heap.size w (w.alloc (.cells (bvs (zb 32)).toArray 22)) := (Below.refl _ _).alloc (Nat.le_refl _) _
  have HRL : Hid ((shaL (t :: ls.flatten)).length = 32) := Lib.hid (shaL_length _)
  obtain ⟨L, hL⟩ : ∃ L, (t :: ls.flatten).length = L := ⟨_, rfl⟩
  have hLb : L ≤ 140737488351232 := by rw [← hL]; simp only [List.length_cons]; exact hb
  have C1 : ∀ u : World, Below w.heap.size w u → Hid (Calls Try.prog 30 #[.int .u8 (t.toNat : Int), .slice A n c] u fun e w' => ∃ A c, e = .returned (.slice A L c) ∧ Tx w' A L c (t :: ls.flatten) ∧ Below u.heap.size u w') := fun u h => Lib.hid ((rtext t A n c vs ls u hl (hr.below h) (ha.below h) (by omega) (by omega)).mono (by
    rintro e w' ⟨v, rfl, ho, hw⟩; obtain ⟨A, c, rfl, ht⟩ := own_tx ho (n := L) hL; exact ⟨A, c, rfl, ht, hw⟩))
  have C2 := fun (A : Option Addr) (c : Nat) (u : World) (h : Tx u A L c (t :: ls.flatten)) => Lib.hid (rsum_tx A L c (t :: ls.flatten) u h hLb)
  clear hL
  generalize shaL (t :: ls.flatten) = res at *
  unfold arr8 at *
  go_enter Try.func89, Try.ntmps89
  go_upto_region 1 with fail
  refine wp_region_lit ?_
  refine wpList_yield rfl _ (exec_move _ rfl) ?_
  simp only [Act.put, Act.eval, Array.getD_eq_getD_getElem?, List.getElem?_toArray, List.getElem?_cons_succ, List.getElem?_cons_zero, Option.getD_some, List.setIfInBounds_toArray, List.set_cons_zero, List.set_cons_succ]
  refine wpList_yield rfl _ (exec_move _ rfl) ?_
  simp only [Act.put, Act.eval, Array.getD_eq_getD_getElem?, List.getElem?_toArray, List.getElem?_cons_succ, List.getElem?_cons_zero, Option.getD_some, List.setIfInBounds_toArray, List.set_cons_zero, List.set_cons_succ]
  refine wpList_plain rfl fun K hK => ?_; go_simp
  refine (C1 _ hw0).out.mono ?_
  rintro e w1 ⟨A1, c1, rfl, t1, hw1⟩
  refine hK _ _ ?_; clear hK
  (try simp only [Act.put, List.setIfInBounds_toArray, List.set_cons_zero, List.set_cons_succ])
  refine wpList_plain rfl fun K hK => ?_; go_simp
  with_reducible refine (C2 _ _ _ t1).out.mono ?_
  rintro e w3 ⟨rfl, hw3⟩
  refine hK _ _ ?_; clear hK
  (try simp only [Act.put, List.setIfInBounds_toArray, List.set_cons_zero, List.set_cons_succ])
  refine wpList_store_at at22w.i rfl (.tmp 4) (.tmp 8) rfl w.heap.size 0 22 (bvs (zb 32)) (bvs res) rfl rfl ((hbz.below hw1 hbz.lt).below hw3 (hbz.below hw1 hbz.lt).lt) (by rw [bvs_length]; exact HRL.out) (by rw [bvs_length, zb_length]; omega) (bvs_one _) ?_
  intro w4 hb4 hg4 hs4
  (try simp only [Act.put, List.setIfInBounds_toArray, List.set_cons_zero, List.set_cons_succ])
  refine wpList_nil ?_
  go_wp2_with fail
  (try simp only [Exit.inBlock, Exit.then])
  rw [splice_all _ _ (by rw [bvs_length, bvs_length, zb_length]; exact HRL.out.symm)] at hb4
  refine bodyPost_ret (ret_cell rfl at22w _ _ w.heap.size 22 (bvs res) rfl hb4 (by rw [bvs_length]; exact HRL.out)) rfl ?_
  have hB1 := bthen hw0 hw1 hw0.size
  have hB3 := bthen hB1 hw3 (Nat.le_trans hw0.size hw1.size)
  exact ⟨rfl, hB3.grown hg4 (Nat.le_trans (Nat.le_trans hw0.size hw1.size) hw3.size) (by intro k hk; cases hk; omega)⟩
theorem rof_is (t : UInt8) (z : Int) (hz : (t.toNat : Int) = z) (A : Option Addr) (n c : Nat) (vs : List Value) (ls : List (List UInt8)) (w : World) (hl : ls.length = n) (hr : Rd w A vs) (ha : AllRd w vs ls) (hn : n ≤ 1099511627776) (hb : ls.flatten.length + 1 ≤ 140737488351232) :
    Calls Try.prog 89 #[.int .u8 z, .slice A n c] w fun e w' => e = .returned (arr8 (shaL (t :: ls.flatten))) ∧ Below w.heap.size w w' := by
  subst hz
  exact rof_any t A n c vs ls w hl hr ha hn hb
set_option maxRecDepth 100000 in
set_option maxHeartbeats 1000000 in
theorem rempty_any (w : World) : Calls Try.prog 91 #[] w fun e w' => e = .returned (arr8 (shaL [0])) ∧ Below w.heap.size w w' := by
  have hbz : Blk (w.alloc (.cells (bvs (zb 32)).toArray 22)) w.heap.size 22 (bvs (zb 32)) := Blk.new _ _ _
  have hw0 : Below w.heap.size w (w.alloc (.cells (bvs (zb 32)).toArray 22)) := (Below.refl _ _).alloc (Nat.le_refl _) _
  have C := fun u => Lib.hid (rof_is 0 0 rfl none 0 0 [] [] u rfl (Rd.nil _ _) (AllRd.nil _) (by omega) (by simp))
  have HRL : Hid ((shaL [0]).length = 32) := Lib.hid (shaL_length _)
  rw [show (0 : UInt8) :: ([] : List (List UInt8)).flatten = [0] from rfl] at C
  generalize shaL [0] = res at *
  unfold arr8 at *
  go_enter Try.func91, Try.ntmps91
  go_upto_region 1 with fail
  refine wp_region_lit ?_
  refine wpList_plain rfl fun K hK => ?_; go_simp
  refine (C _).out.mono ?_
  rintro e w3 ⟨rfl, hw3⟩
  refine hK _ _ ?_; clear hK
  (try simp only [Act.put, List.setIfInBounds_toArray, List.set_cons_zero, List.set_cons_succ])
  refine wpList_store_at at22w.i rfl (.tmp 0) (.tmp 1) rfl w.heap.size 0 22 (bvs (zb 32)) (bvs res) rfl rfl (hbz.below hw3 hbz.lt) (by rw [bvs_length]; exact HRL.out) (by rw [bvs_length, zb_length]; omega) (bvs_one _) ?_
  intro w4 hb4 hg4 hs4
  (try simp only [Act.put, List.setIfInBounds_toArray, List.set_cons_zero, List.set_cons_succ])
  refine wpList_nil ?_
  go_wp2_with fail
  (try simp only [Exit.inBlock, Exit.then])
  rw [splice_all _ _ (by rw [bvs_length, bvs_length, zb_length]; exact HRL.out.symm)] at hb4
  refine bodyPost_ret (ret_cell rfl at22w _ _ w.heap.size 22 (bvs res) rfl hb4 (by rw [bvs_length]; exact HRL.out)) rfl ?_
  exact ⟨rfl, (hw0.trans (hw3.mono hw0.size)).grown hg4 (Nat.le_trans hw0.size hw3.size) (by intro k hk; cases hk; omega)⟩
set_option maxRecDepth 100000 in
set_option maxHeartbeats 1000000 in
theorem rvalue_any (A : Option Addr) (n c : Nat) (l : List UInt8) (w : World) (hr : Rd w A (bvs l)) (hl : l.length = n) (hcap : n ≤ c) (hn : n + 2 ≤ 140737488351232) :
    Calls Try.prog 93 #[.slice A n c] w fun e w' => e = .returned (arr8 (shaL (3 :: l))) ∧ Below w.heap.size w w' := by
  subst hl
  have hbz : Blk ((w.alloc (.cells (bvs (zb 32)).toArray 22)).alloc (.cells #[.slice A l.length c] 24)) w.heap.size 22 (bvs (zb 32)) := (Blk.new _ _ _).alloc _
  have hw0 : Below w.heap.size w ((w.alloc (.cells (bvs (zb 32)).toArray 22)).alloc (.cells #[.slice A l.length c] 24)) := ((Below.refl _ _).alloc (Nat.le_refl _) _).alloc (by simp) _
  have hR : Rd ((w.alloc (.cells (bvs (zb 32)).toArray 22)).alloc (.cells #[.slice A l.length c] 24)) (some ⟨w.heap.size + 1, 0, none⟩) [.slice A l.length c] := by
    have := Rd.one_blk (Blk.new (w.alloc (.cells (bvs (zb 32)).toArray 22)) 24 [.slice A l.length c])
    rwa [show (w.alloc (.cells (bvs (zb 32)).toArray 22)).heap.size = w.heap.size + 1 by simp] at this
  have C := Lib.hid (rof_is 3 3 rfl (some ⟨w.heap.size + 1, 0, none⟩) 1 1 [.slice A l.length c] [l] _ rfl hR (AllRd.cons ⟨A, c, rfl, hcap, (hr.alloc _).alloc _⟩ (AllRd.nil _)) (by omega) (by simp; omega))
  have HRL : Hid ((shaL (3 :: l)).length = 32) := Lib.hid (shaL_length _)
  rw [show (3 : UInt8) :: [l].flatten = 3 :: l by simp] at C
  generalize shaL (3 :: l) = res at *
  unfold arr8 at *
  go_enter Try.func93, Try.ntmps93
  go_upto_region 1 with fail
  refine wp_region_lit ?_
  refine wpList_yield rfl _ (exec_move _ rfl) ?_
  simp only [Act.put, Act.eval, Array.getD_eq_getD_getElem?, List.getElem?_toArray, List.getElem?_cons_succ, List.getElem?_cons_zero, Option.getD_some, List.setIfInBounds_toArray, List.set_cons_zero, List.set_cons_succ]
  refine wpList_plain rfl fun K hK => ?_; go_simp
  refine hK _ _ ?_; clear hK
  (try simp only [Act.put, List.setIfInBounds_toArray, List.set_cons_zero, List.set_cons_succ])
  refine wpList_plain rfl fun K hK => ?_; go_simp
  refine C.out.mono ?_
  rintro e w3 ⟨rfl, hw3⟩
  refine hK _ _ ?_; clear hK
  (try simp only [Act.put, List.setIfInBounds_toArray, List.set_cons_zero, List.set_cons_succ])
  refine wpList_store_at at22w.i rfl (.tmp 2) (.tmp 5) rfl w.heap.size 0 22 (bvs (zb 32)) (bvs res) rfl rfl (hbz.below hw3 hbz.lt) (by rw [bvs_length]; exact HRL.out) (by rw [bvs_length, zb_length]; omega) (bvs_one _) ?_
  intro w4 hb4 hg4 hs4
  (try simp only [Act.put, List.setIfInBounds_toArray, List.set_cons_zero, List.set_cons_succ])
  refine wpList_nil ?_
  go_wp2_with fail
  (try simp only [Exit.inBlock, Exit.then])
  rw [splice_all _ _ (by rw [bvs_length, bvs_length, zb_length]; exact HRL.out.symm)] at hb4
  refine bodyPost_ret (ret_cell rfl at22w _ _ w.heap.size 22 (bvs res) rfl hb4 (by rw [bvs_length]; exact HRL.out)) rfl ?_
  exact ⟨rfl, (hw0.trans (hw3.mono hw0.size)).grown hg4 (Nat.le_trans hw0.size hw3.size) (by intro k hk; cases hk; omega)⟩
set_option maxRecDepth 100000 in
set_option maxHeartbeats 2000000 in
theorem rleaf_any (k v : List UInt8) (w : World) (lk : k.length = 32) (lv : v.length = 32) :
    Calls Try.prog 95 #[arr8 k, arr8 v] w fun e w' => e = .returned (arr8 (shaL (1 :: (k ++ v)))) ∧ Below w.heap.size w w' := by
  have b1 : Blk (w.alloc (.cells (bvs k).toArray 22)) w.heap.size 22 (bvs k) := Blk.new _ _ _
  have b2 : Blk ((w.alloc (.cells (bvs k).toArray 22)).alloc (.cells (bvs v).toArray 22)) (w.heap.size + 1) 22 (bvs v) := by
    have := Blk.new (w.alloc (.cells (bvs k).toArray 22)) 22 (bvs v)
    rwa [show (w.alloc (.cells (bvs k).toArray 22)).heap.size = w.heap.size + 1 by simp] at this
  have b3 : Blk (((w.alloc (.cells (bvs k).toArray 22)).alloc (.cells (bvs v).toArray 22)).alloc (.cells (bvs (zb 32)).toArray 22)) (w.heap.size + 2) 22 (bvs (zb 32)) := by
    have := Blk.new ((w.alloc (.cells (bvs k).toArray 22)).alloc (.cells (bvs v).toArray 22)) 22 (bvs (zb 32))
    rwa [show ((w.alloc (.cells (bvs k).toArray 22)).alloc (.cells (bvs v).toArray 22)).heap.size = w.heap.size + 2 by simp] at this
  have hall : Blk (((w.alloc (.cells (bvs k).toArray 22)).alloc (.cells (bvs v).toArray 22)).alloc (.cells (bvs (zb 32)).toArray 22)) w.heap.size 22 (bvs k) ∧ Blk (((w.alloc (.cells (bvs k).toArray 22)).alloc (.cells (bvs v).toArray 22)).alloc (.cells (bvs (zb 32)).toArray 22)) (w.heap.size + 1) 22 (bvs v) ∧ Blk (((w.alloc (.cells (bvs k).toArray 22)).alloc (.cells (bvs v).toArray 22)).alloc (.cells (bvs (zb 32)).toArray 22)) (w.heap.size + 2) 22 (bvs (zb 32)) ∧ Below w.heap.size w (((w.alloc (.cells (bvs k).toArray 22)).alloc (.cells (bvs v).toArray 22)).alloc (.cells (bvs (zb 32)).toArray 22)) := ⟨((b1.alloc (.cells (bvs v).toArray 22)).alloc (.cells (bvs (zb 32)).toArray 22)), (b2.alloc (.cells (bvs (zb 32)).toArray 22)), b3, ((((Below.refl w.heap.size w).alloc (by first | exact Nat.le_refl _ | (simp; done) | (simp; omega)) (.cells (bvs k).toArray 22)).alloc (by first | exact Nat.le_refl _ | (simp; done) | (simp; omega)) (.cells (bvs v).toArray 22)).alloc (by first | exact Nat.le_refl _ | (simp; done) | (simp; omega)) (.cells (bvs (zb 32)).toArray 22))⟩
  clear b1 b2 b3
  have HK := Lib.hid lk
  have HV := Lib.hid lv
  have C1 : ∀ u : World, Hid (Calls Try.prog 31 #[.agg (bvs k).toArray, .agg (bvs v).toArray] u fun e w' => ∃ A c, e = .returned (.slice A 65 c) ∧ Tx w' A 65 c (1 :: (k ++ v)) ∧ Below u.heap.size u w') := fun u => Lib.hid ((rleaf_text k v u lk lv).mono (by
    rintro e w' ⟨v, rfl, ho, hw⟩; obtain ⟨A, c, rfl, ht⟩ := own_tx ho (n := 65) (by simp [lk, lv]); exact ⟨A, c, rfl, ht, hw⟩))
  have C2 := fun (A : Option Addr) (c : Nat) (u : World) (h : Tx u A 65 c (1 :: (k ++ v))) => Lib.hid (rsum_tx A 65 c _ u h (by omega))
  have HRL : Hid ((shaL (1 :: (k ++ v))).length = 32) := Lib.hid (shaL_length _)
  generalize shaL (1 :: (k ++ v)) = res at *
  unfold arr8 at *
  go_enter Try.func95, Try.ntmps95
  go_upto_region 1 with fail
  generalize hW : World.alloc (World.alloc (World.alloc w _) _) _ = w0
  have h3 : Blk w0 w.heap.size 22 (bvs k) ∧ Blk w0 (w.heap.size + 1) 22 (bvs v) ∧ Blk w0 (w.heap.size + 2) 22 (bvs (zb 32)) ∧ Below w.heap.size w w0 := by rw [← hW]; exact hall
  clear hall hW
  obtain ⟨c1, c2, c3, c0⟩ := h3
  have d3 := fun (w1 w3 : World) (hw1 : Below w0.heap.size w0 w1) (hw3 : Below w1.heap.size w1 w3) => (c3.below hw1 c3.lt).below hw3 (c3.below hw1 c3.lt).lt
  refine wp_region_lit ?_
  refine wpList_yield rfl _ (exec_load_agg at22w (.tmp 2) rfl w.heap.size 22 (bvs k) rfl c1 (by rw [bvs_length]; exact HK.out)) ?_
  simp only [Act.put, List.setIfInBounds_toArray, List.set_cons_zero, List.set_cons_succ]
  refine wpList_yield rfl _ (exec_load_agg at22w (.tmp 3) rfl (w.heap.size + 1) 22 (bvs v) rfl c2 (by rw [bvs_length]; exact HV.out)) ?_
  simp only [Act.put, List.setIfInBounds_toArray, List.set_cons_zero, List.set_cons_succ]
  refine wpList_plain rfl fun K hK => ?_; go_simp
  with_reducible refine (C1 _).out.mono ?_
  rintro e w1 ⟨A1, e1, rfl, t1, hw1⟩
  refine hK _ _ ?_; clear hK
  (try simp only [Act.put, List.setIfInBounds_toArray, List.set_cons_zero, List.set_cons_succ])
  refine wpList_plain rfl fun K hK => ?_; go_simp
  with_reducible refine (C2 _ _ _ t1).out.mono ?_
  rintro e w3 ⟨rfl, hw3⟩
  refine hK _ _ ?_; clear hK
  (try simp only [Act.put, List.setIfInBounds_toArray, List.set_cons_zero, List.set_cons_succ])
  refine wpList_store_at at22w.i rfl (.tmp 4) (.tmp 8) rfl (w.heap.size + 2) 0 22 (bvs (zb 32)) (bvs res) rfl rfl (d3 w1 w3 hw1 hw3) (by rw [bvs_length]; exact HRL.out) (by rw [bvs_length, zb_length]; omega) (bvs_one _) ?_
  intro w4 hb4 hg4 hs4
  (try simp only [Act.put, List.setIfInBounds_toArray, List.set_cons_zero, List.set_cons_succ])
  refine wpList_nil ?_
  go_wp2_with fail
  (try simp only [Exit.inBlock, Exit.then])
  rw [splice_all _ _ (by rw [bvs_length, bvs_length, zb_length]; exact HRL.out.symm)] at hb4
  refine bodyPost_ret (ret_cell rfl at22w _ _ (w.heap.size + 2) 22 (bvs res) rfl hb4 (by rw [bvs_length]; exact HRL.out)) rfl ?_
  have hB1 := bthen c0 hw1 c0.size
  have hB3 := bthen hB1 hw3 (Nat.le_trans c0.size hw1.size)
  exact ⟨rfl, hB3.grown hg4 (Nat.le_trans (Nat.le_trans c0.size hw1.size) hw3.size) (by intro k hk; cases hk; omega)⟩
set_option maxRecDepth 100000 in
set_option maxHeartbeats 2000000 in
theorem rinner_any (k v : List UInt8) (w : World) (lk : k.length = 32) (lv : v.length = 32) :
    Calls Try.prog 97 #[arr8 k, arr8 v] w fun e w' => e = .returned (arr8 (shaL (2 :: (k ++ v)))) ∧ Below w.heap.size w w' := by
  have b1 : Blk (w.alloc (.cells (bvs k).toArray 22)) w.heap.size 22 (bvs k) := Blk.new _ _ _
  have b2 : Blk ((w.alloc (.cells (bvs k).toArray 22)).alloc (.cells (bvs v).toArray 22)) (w.heap.size + 1) 22 (bvs v) := by
    have := Blk.new (w.alloc (.cells (bvs k).toArray 22)) 22 (bvs v)
    rwa [show (w.alloc (.cells (bvs k).toArray 22)).heap.size = w.heap.size + 1 by simp] at this
  have b3 : Blk (((w.alloc (.cells (bvs k).toArray 22)).alloc (.cells (bvs v).toArray 22)).alloc (.cells (bvs (zb 32)).toArray 22)) (w.heap.size + 2) 22 (bvs (zb 32)) := by
    have := Blk.new ((w.alloc (.cells (bvs k).toArray 22)).alloc (.cells (bvs v).toArray 22)) 22 (bvs (zb 32))
    rwa [show ((w.alloc (.cells (bvs k).toArray 22)).alloc (.cells (bvs v).toArray 22)).heap.size = w.heap.size + 2 by simp] at this
  have hall : Blk (((w.alloc (.cells (bvs k).toArray 22)).alloc (.cells (bvs v).toArray 22)).alloc (.cells (bvs (zb 32)).toArray 22)) w.heap.size 22 (bvs k) ∧ Blk (((w.alloc (.cells (bvs k).toArray 22)).alloc (.cells (bvs v).toArray 22)).alloc (.cells (bvs (zb 32)).toArray 22)) (w.heap.size + 1) 22 (bvs v) ∧ Blk (((w.alloc (.cells (bvs k).toArray 22)).alloc (.cells (bvs v).toArray 22)).alloc (.cells (bvs (zb 32)).toArray 22)) (w.heap.size + 2) 22 (bvs (zb 32)) ∧ Below w.heap.size w (((w.alloc (.cells (bvs k).toArray 22)).alloc (.cells (bvs v).toArray 22)).alloc (.cells (bvs (zb 32)).toArray 22)) := ⟨((b1.alloc (.cells (bvs v).toArray 22)).alloc (.cells (bvs (zb 32)).toArray 22)), (b2.alloc (.cells (bvs (zb 32)).toArray 22)), b3, ((((Below.refl w.heap.size w).alloc (by first | exact Nat.le_refl _ | (simp; done) | (simp; omega)) (.cells (bvs k).toArray 22)).alloc (by first | exact Nat.le_refl _ | (simp; done) | (simp; omega)) (.cells (bvs v).toArray 22)).alloc (by first | exact Nat.le_refl _ | (simp; done) | (simp; omega)) (.cells (bvs (zb 32)).toArray 22))⟩
  clear b1 b2 b3
  have HK := Lib.hid lk
  have HV := Lib.hid lv
  have C1 : ∀ u : World, Hid (Calls Try.prog 32 #[.agg (bvs k).toArray, .agg (bvs v).toArray] u fun e w' => ∃ A c, e = .returned (.slice A 65 c) ∧ Tx w' A 65 c (2 :: (k ++ v)) ∧ Below u.heap.size u w') := fun u => Lib.hid ((rinner_text k v u lk lv).mono (by
    rintro e w' ⟨v, rfl, ho, hw⟩; obtain ⟨A, c, rfl, ht⟩ := own_tx ho (n := 65) (by simp [lk, lv]); exact ⟨A, c, rfl, ht, hw⟩))
  have C2 := fun (A : Option Addr) (c : Nat) (u : World) (h : Tx u A 65 c (2 :: (k ++ v))) => Lib.hid (rsum_tx A 65 c _ u h (by omega))
  have HRL : Hid ((shaL (2 :: (k ++ v))).length = 32) := Lib.hid (shaL_length _)
  generalize shaL (2 :: (k ++ v)) = res at *
  unfold arr8 at *
  go_enter Try.func97, Try.ntmps97
  go_upto_region 1 with fail
  generalize hW : World.alloc (World.alloc (World.alloc w _) _) _ = w0
  have h3 : Blk w0 w.heap.size 22 (bvs k) ∧ Blk w0 (w.heap.size + 1) 22 (bvs v) ∧ Blk w0 (w.heap.size + 2) 22 (bvs (zb 32)) ∧ Below w.heap.size w w0 := by rw [← hW]; exact hall
  clear hall hW
  obtain ⟨c1, c2, c3, c0⟩ := h3
  have d3 := fun (w1 w3 : World) (hw1 : Below w0.heap.size w0 w1) (hw3 : Below w1.heap.size w1 w3) => (c3.below hw1 c3.lt).below hw3 (c3.below hw1 c3.lt).lt
  refine wp_region_lit ?_
  refine wpList_yield rfl _ (exec_load_agg at22w (.tmp 2) rfl w.heap.size 22 (bvs k) rfl c1 (by rw [bvs_length]; exact HK.out)) ?_
  simp only [Act.put, List.setIfInBounds_toArray, List.set_cons_zero, List.set_cons_succ]
  refine wpList_yield rfl _ (exec_load_agg at22w (.tmp 3) rfl (w.heap.size + 1) 22 (bvs v) rfl c2 (by rw [bvs_length]; exact HV.out)) ?_
  simp only [Act.put, List.setIfInBounds_toArray, List.set_cons_zero, List.set_cons_succ]
  refine wpList_plain rfl fun K hK => ?_; go_simp
  with_reducible refine (C1 _).out.mono ?_
  rintro e w1 ⟨A1, e1, rfl, t1, hw1⟩
  refine hK _ _ ?_; clear hK
  (try simp only [Act.put, List.setIfInBounds_toArray, List.set_cons_zero, List.set_cons_succ])
  refine wpList_plain rfl fun K hK => ?_; go_simp
  with_reducible refine (C2 _ _ _ t1).out.mono ?_
  rintro e w3 ⟨rfl, hw3⟩
  refine hK _ _ ?_; clear hK
  (try simp only [Act.put, List.setIfInBounds_toArray, List.set_cons_zero, List.set_cons_succ])
  refine wpList_store_at at22w.i rfl (.tmp 4) (.tmp 8) rfl (w.heap.size + 2) 0 22 (bvs (zb 32)) (bvs res) rfl rfl (d3 w1 w3 hw1 hw3) (by rw [bvs_length]; exact HRL.out) (by rw [bvs_length, zb_length]; omega) (bvs_one _) ?_
  intro w4 hb4 hg4 hs4
  (try simp only [Act.put, List.setIfInBounds_toArray, List.set_cons_zero, List.set_cons_succ])
  refine wpList_nil ?_
  go_wp2_with fail
  (try simp only [Exit.inBlock, Exit.then])
  rw [splice_all _ _ (by rw [bvs_length, bvs_length, zb_length]; exact HRL.out.symm)] at hb4
  refine bodyPost_ret (ret_cell rfl at22w _ _ (w.heap.size + 2) 22 (bvs res) rfl hb4 (by rw [bvs_length]; exact HRL.out)) rfl ?_
  have hB1 := bthen c0 hw1 c0.size
  have hB3 := bthen hB1 hw3 (Nat.le_trans c0.size hw1.size)
  exact ⟨rfl, hB3.grown hg4 (Nat.le_trans (Nat.le_trans c0.size hw1.size) hw3.size) (by intro k hk; cases hk; omega)⟩
def entH (k l : List UInt8) : List UInt8 := if 1024 < l.length then zb 32 else shaL (1 :: (k ++ shaL (3 :: l)))
def entE (l : List UInt8) : Int := if 1024 < l.length then 4 else 0
theorem entH_length (k l : List UInt8) : (entH k l).length = 32 := by
  unfold entH
  split
  · rfl
  · exact shaL_length _
set_option maxRecDepth 100000 in
set_option maxHeartbeats 2000000 in
theorem entry_any (k : List UInt8) (A : Option Addr) (n c : Nat) (l : List UInt8) (w : World) (lk : k.length = 32) (h : Tx w A n c l) (hn : n + 2 ≤ 140737488351232) :
    Calls Try.prog 98 #[arr8 k, .slice A n c] w fun e w' => e = .returned (.tuple #[arr8 (entH k l), .int .i64 (entE l)]) ∧ Below w.heap.size w w' := by
  have hlen := h.len
  have b1 : Blk (w.alloc (.cells (bvs k).toArray 23)) w.heap.size 23 (bvs k) := Blk.new _ _ _
  have b2 : Blk ((w.alloc (.cells (bvs k).toArray 23)).alloc (.cells (bvs (zb 32)).toArray 25)) (w.heap.size + 1) 25 (bvs (zb 32)) := by
    have := Blk.new (w.alloc (.cells (bvs k).toArray 23)) 25 (bvs (zb 32))
    rwa [show (w.alloc (.cells (bvs k).toArray 23)).heap.size = w.heap.size + 1 by simp] at this
  have hall : Blk ((w.alloc (.cells (bvs k).toArray 23)).alloc (.cells (bvs (zb 32)).toArray 25)) w.heap.size 23 (bvs k) ∧ Blk ((w.alloc (.cells (bvs k).toArray 23)).alloc (.cells (bvs (zb 32)).toArray 25)) (w.heap.size + 1) 25 (bvs (zb 32)) ∧ Below w.heap.size w ((w.alloc (.cells (bvs k).toArray 23)).alloc (.cells (bvs (zb 32)).toArray 25)) := ⟨(b1.alloc (.cells (bvs (zb 32)).toArray 25)), b2, (((Below.refl w.heap.size w).alloc (by first | exact Nat.le_refl _ | (simp; done) | (simp; omega)) (.cells (bvs k).toArray 23)).alloc (by first | exact Nat.le_refl _ | (simp; done) | (simp; omega)) (.cells (bvs (zb 32)).toArray 25))⟩
  clear b1 b2
  have HK := Lib.hid lk
  have C1 := fun (u : World) (h : Tx u A n c l) => Lib.hid (value_any A n c l u h.rd h.len h.cap h.max (by omega))
  have C2 := fun (u : World) => Lib.hid (leaf_any k (shaL (3 :: l)) u lk (shaL_length _))
  by_cases hgt : 1024 < n
  · have e1 : entH k l = zb 32 := by unfold entH; rw [if_pos (by omega)]
    have e2 : entE l = 4 := by unfold entE; rw [if_pos (by omega)]
    rw [e1, e2]
    clear e1 e2 C1 C2 hlen
    have hz : (1024 : Int) < (n : Int) := by omega
    unfold arr8 at *
    go_enter Try.func98, Try.ntmps98
    go_upto_region 1 with fail
    generalize hW : World.alloc (World.alloc w _) _ = w0
    have h3 : Blk w0 w.heap.size 23 (bvs k) ∧ Blk w0 (w.heap.size + 1) 25 (bvs (zb 32)) ∧ Below w.heap.size w w0 := by rw [← hW]; exact hall
    clear hall hW
    obtain ⟨c1, c2, c0⟩ := h3
    go_upto_region 2 with fail
    refine wp_region_lit ?_
    refine wpList_yield rfl _ (exec_build _ rfl (bvs (zb 32)).toArray (by kernel_rfl)) ?_
    simp only [Act.put, List.setIfInBounds_toArray, List.set_cons_zero, List.set_cons_succ]
    refine wpList_store_at at25w.i rfl (.tmp 4) (.tmp 9) rfl (w.heap.size + 1) 0 25 (bvs (zb 32)) (bvs (zb 32)) rfl rfl c2 (by rw [bvs_length, zb_length]) (by rw [bvs_length, zb_length]; omega) (bvs_one _) ?_
    intro w4 hb4 hg4 hs4
    (try simp only [Act.put, List.setIfInBounds_toArray, List.set_cons_zero, List.set_cons_succ])
    refine wpList_yield rfl _ (exec_assign _ rfl) ?_
    simp only [Act.put, Act.eval, Array.getD_eq_getD_getElem?, List.getElem?_toArray, List.getElem?_cons_succ, List.getElem?_cons_zero, Option.getD_some, List.setIfInBounds_toArray, List.set_cons_zero, List.set_cons_succ]
    refine wpList_nil ?_
    go_wp2_with fail
    (try simp only [Exit.inBlock, Exit.then])
    rw [splice_all _ _ rfl] at hb4
    refine bodyPost_ret (ret_cell_tmp rfl at25w _ _ (w.heap.size + 1) 25 (bvs (zb 32)) rfl hb4 (by rw [bvs_length, zb_length])) rfl ?_
    exact ⟨rfl, c0.grown hg4 c0.size (by intro k hk; cases hk; omega)⟩
  · have e1 : entH k l = shaL (1 :: (k ++ shaL (3 :: l))) := by unfold entH; rw [if_neg (by omega)]
    have e2 : entE l = 0 := by unfold entE; rw [if_neg (by omega)]
    rw [e1, e2]
    clear e1 e2 hlen
    have hz : ¬ (1024 : Int) < (n : Int) := by omega
    have HRL : Hid ((shaL (1 :: (k ++ shaL (3 :: l)))).length = 32) := Lib.hid (shaL_length _)
    generalize shaL (1 :: (k ++ shaL (3 :: l))) = res at *
    generalize shaL (3 :: l) = mid at *
    unfold arr8 at *
    go_enter Try.func98, Try.ntmps98
    go_upto_region 1 with fail
    generalize hW : World.alloc (World.alloc w _) _ = w0
    have h3 : Blk w0 w.heap.size 23 (bvs k) ∧ Blk w0 (w.heap.size + 1) 25 (bvs (zb 32)) ∧ Below w.heap.size w w0 := by rw [← hW]; exact hall
    clear hall hW
    obtain ⟨c1, c2, c0⟩ := h3
    go_upto_region 3 with fail
    refine rg_begin (fun (W : World) => Blk W w.heap.size 23 (bvs k)) [] [2, 3, 4] [0, 1, 2, 3, 4, 5] 0 mixed (by kernel_rfl) (fun _ _ _ _ e hh => ⟨e.symm.trans hh.1, hh.2⟩) ?_
    simp only [pick, List.map_cons, List.map_nil, List.getD_cons_zero, List.getD_cons_succ]
    have hS : (fun (W : World) => Blk W w.heap.size 23 (bvs k)) _ := c1.drew
    refine rg_take rfl rfl hS (fun W hW => exec_load_agg at23' (.tmp 2) rfl w.heap.size 23 (bvs k) rfl hW (by rw [bvs_length]; exact HK.out)) ?_
    simp only [Act.put, List.setIfInBounds_toArray, List.set_cons_zero, List.set_cons_succ]
    refine rg_take (v := ?v1_1) rfl rfl hS ?y1_1 ?_
    case y1_1 => intro W hW; (try subst hW); go_simp; try with_reducible rfl
    simp only [Act.put, List.setIfInBounds_toArray, List.set_cons_zero, List.set_cons_succ]
    refine rg_one rfl rfl ?_; intro K hK; go_simp
    with_reducible refine (C1 _ ((h.below c0).below (Below.refl w0.heap.size w0).drew)).out.mono ?_
    rintro e w1 ⟨rfl, hw1⟩
    have hS1 := c1.drew.below hw1 c1.lt
    have hZ1 := c2.drew.below hw1 c2.lt
    refine hK _ _ (fun _ => hS1) ?_; clear hK
    refine rg_one rfl rfl ?_; intro K hK; go_simp
    with_reducible refine (C2 _).out.mono ?_
    rintro e w3 ⟨rfl, hw3⟩
    have hS2 := hS1.below hw3 hS1.lt
    have hZ2 := hZ1.below hw3 hZ1.lt
    refine hK _ _ (fun _ => hS2) ?_; clear hK
    refine rg_one rfl rfl ?_; intro K hK
    refine wp_store_at at25w.i (.tmp 4) (.tmp 13) rfl (w.heap.size + 1) 0 25 (bvs (zb 32)) (bvs res) rfl rfl hZ2 (by rw [bvs_length]; exact HRL.out) (by rw [bvs_length, zb_length]; omega) (bvs_one _) ?_
    intro w4 hb4 hg4 hs4
    have hS3 := hS2.grown hg4 (by simp)
    refine hK _ _ (fun _ => hS3) ?_; clear hK
    refine rg_take (v := ?v1_5) rfl rfl hS3 ?y1_5 ?_
    case y1_5 => intro W hW; (try subst hW); go_simp; try with_reducible rfl
    simp only [Act.put, List.setIfInBounds_toArray, List.set_cons_zero, List.set_cons_succ]
    refine rg_done (by kernel_rfl) ?_
    go_wp2_with fail
    (try simp only [Exit.inBlock, Exit.then])
    rw [splice_all _ _ (by rw [bvs_length, bvs_length, zb_length]; exact HRL.out.symm)] at hb4
    refine bodyPost_ret (ret_cell_tmp rfl at25w _ _ (w.heap.size + 1) 25 (bvs res) rfl hb4 (by rw [bvs_length]; exact HRL.out)) rfl ?_
    have hB0 : Below w.heap.size w w0.drew := c0.drew
    have hB1 := bthen hB0 hw1 hB0.size
    have hB3 := bthen hB1 hw3 hB1.size
    exact ⟨rfl, hB3.grown hg4 hB3.size (by intro k hk; cases hk; omega)⟩
set_option maxRecDepth 100000 in
set_option maxHeartbeats 2000000 in
theorem rentry_any (k : List UInt8) (A : Option Addr) (n c : Nat) (l : List UInt8) (w : World) (lk : k.length = 32) (h : Tx w A n c l) (hn : n + 2 ≤ 140737488351232) :
    Calls Try.prog 99 #[arr8 k, .slice A n c] w fun e w' => e = .returned (.tuple #[arr8 (entH k l), .int .i64 (entE l)]) ∧ Below w.heap.size w w' := by
  have hlen := h.len
  have b1 : Blk (w.alloc (.cells (bvs k).toArray 22)) w.heap.size 22 (bvs k) := Blk.new _ _ _
  have b2 : Blk ((w.alloc (.cells (bvs k).toArray 22)).alloc (.cells (bvs (zb 32)).toArray 22)) (w.heap.size + 1) 22 (bvs (zb 32)) := by
    have := Blk.new (w.alloc (.cells (bvs k).toArray 22)) 22 (bvs (zb 32))
    rwa [show (w.alloc (.cells (bvs k).toArray 22)).heap.size = w.heap.size + 1 by simp] at this
  have hall : Blk ((w.alloc (.cells (bvs k).toArray 22)).alloc (.cells (bvs (zb 32)).toArray 22)) w.heap.size 22 (bvs k) ∧ Blk ((w.alloc (.cells (bvs k).toArray 22)).alloc (.cells (bvs (zb 32)).toArray 22)) (w.heap.size + 1) 22 (bvs (zb 32)) ∧ Below w.heap.size w ((w.alloc (.cells (bvs k).toArray 22)).alloc (.cells (bvs (zb 32)).toArray 22)) := ⟨(b1.alloc (.cells (bvs (zb 32)).toArray 22)), b2, (((Below.refl w.heap.size w).alloc (by first | exact Nat.le_refl _ | (simp; done) | (simp; omega)) (.cells (bvs k).toArray 22)).alloc (by first | exact Nat.le_refl _ | (simp; done) | (simp; omega)) (.cells (bvs (zb 32)).toArray 22))⟩
  clear b1 b2
  have HK := Lib.hid lk
  have C1 := fun (u : World) (h : Tx u A n c l) => Lib.hid (rvalue_any A n c l u h.rd h.len h.cap (by omega))
  have C2 := fun (u : World) => Lib.hid (rleaf_any k (shaL (3 :: l)) u lk (shaL_length _))
  by_cases hgt : 1024 < n
  · have e1 : entH k l = zb 32 := by unfold entH; rw [if_pos (by omega)]
    have e2 : entE l = 4 := by unfold entE; rw [if_pos (by omega)]
    rw [e1, e2]
    clear e1 e2 C1 C2 hlen
    have hz : (1024 : Int) < (n : Int) := by omega
    unfold arr8 at *
    go_enter Try.func99, Try.ntmps99
    go_upto_region 1 with fail
    generalize hW : World.alloc (World.alloc w _) _ = w0
    have h3 : Blk w0 w.heap.size 22 (bvs k) ∧ Blk w0 (w.heap.size + 1) 22 (bvs (zb 32)) ∧ Below w.heap.size w w0 := by rw [← hW]; exact hall
    clear hall hW
    obtain ⟨c1, c2, c0⟩ := h3
    go_upto_region 2 with fail
    refine wp_region_lit ?_
    refine wpList_yield rfl _ (exec_build _ rfl (bvs (zb 32)).toArray (by kernel_rfl)) ?_
    simp only [Act.put, List.setIfInBounds_toArray, List.set_cons_zero, List.set_cons_succ]
    refine wpList_store_at at22w.i rfl (.tmp 4) (.tmp 9) rfl (w.heap.size + 1) 0 22 (bvs (zb 32)) (bvs (zb 32)) rfl rfl c2 (by rw [bvs_length, zb_length]) (by rw [bvs_length, zb_length]; omega) (bvs_one _) ?_
    intro w4 hb4 hg4 hs4
    (try simp only [Act.put, List.setIfInBounds_toArray, List.set_cons_zero, List.set_cons_succ])
    refine wpList_yield rfl _ (exec_assign _ rfl) ?_
    simp only [Act.put, Act.eval, Array.getD_eq_getD_getElem?, List.getElem?_toArray, List.getElem?_cons_succ, List.getElem?_cons_zero, Option.getD_some, List.setIfInBounds_toArray, List.set_cons_zero, List.set_cons_succ]
    refine wpList_nil ?_
    go_wp2_with fail
    (try simp only [Exit.inBlock, Exit.then])
    rw [splice_all _ _ rfl] at hb4
    refine bodyPost_ret (ret_cell_tmp rfl at22w _ _ (w.heap.size + 1) 22 (bvs (zb 32)) rfl hb4 (by rw [bvs_length, zb_length])) rfl ?_
    exact ⟨rfl, c0.grown hg4 c0.size (by intro k hk; cases hk; omega)⟩
  · have e1 : entH k l = shaL (1 :: (k ++ shaL (3 :: l))) := by unfold entH; rw [if_neg (by omega)]
    have e2 : entE l = 0 := by unfold entE; rw [if_neg (by omega)]
    rw [e1, e2]
    clear e1 e2 hlen
    have hz : ¬ (1024 : Int) < (n : Int) := by omega
    have HRL : Hid ((shaL (1 :: (k ++ shaL (3 :: l)))).length = 32) := Lib.hid (shaL_length _)
    generalize shaL (1 :: (k ++ shaL (3 :: l))) = res at *
    generalize shaL (3 :: l) = mid at *
    unfold arr8 at *
    go_enter Try.func99, Try.ntmps99
    go_upto_region 1 with fail
    generalize hW : World.alloc (World.alloc w _) _ = w0
    have h3 : Blk w0 w.heap.size 22 (bvs k) ∧ Blk w0 (w.heap.size + 1) 22 (bvs (zb 32)) ∧ Below w.heap.size w w0 := by rw [← hW]; exact hall
    clear hall hW
    obtain ⟨c1, c2, c0⟩ := h3
    go_upto_region 3 with fail
    refine rg_begin (fun (W : World) => Blk W w.heap.size 22 (bvs k)) [] [2, 3, 4] [0, 1, 2, 3, 4, 5] 0 mixed (by kernel_rfl) (fun _ _ _ _ e hh => ⟨e.symm.trans hh.1, hh.2⟩) ?_
    simp only [pick, List.map_cons, List.map_nil, List.getD_cons_zero, List.getD_cons_succ]
    have hS : (fun (W : World) => Blk W w.heap.size 22 (bvs k)) _ := c1.drew
    refine rg_take rfl rfl hS (fun W hW => exec_load_agg at22w (.tmp 2) rfl w.heap.size 22 (bvs k) rfl hW (by rw [bvs_length]; exact HK.out)) ?_
    simp only [Act.put, List.setIfInBounds_toArray, List.set_cons_zero, List.set_cons_succ]
    refine rg_take (v := ?v2_1) rfl rfl hS ?y2_1 ?_
    case y2_1 => intro W hW; (try subst hW); go_simp; try with_reducible rfl
    simp only [Act.put, List.setIfInBounds_toArray, List.set_cons_zero, List.set_cons_succ]
    refine rg_one rfl rfl ?_; intro K hK; go_simp
    with_reducible refine (C1 _ ((h.below c0).below (Below.refl w0.heap.size w0).drew)).out.mono ?_
    rintro e w1 ⟨rfl, hw1⟩
    have hS1 := c1.drew.below hw1 c1.lt
    have hZ1 := c2.drew.below hw1 c2.lt
    refine hK _ _ (fun _ => hS1) ?_; clear hK
    refine rg_one rfl rfl ?_; intro K hK; go_simp
    with_reducible refine (C2 _).out.mono ?_
    rintro e w3 ⟨rfl, hw3⟩
    have hS2 := hS1.below hw3 hS1.lt
    have hZ2 := hZ1.below hw3 hZ1.lt
    refine hK _ _ (fun _ => hS2) ?_; clear hK
    refine rg_one rfl rfl ?_; intro K hK
    refine wp_store_at at22w.i (.tmp 4) (.tmp 13) rfl (w.heap.size + 1) 0 22 (bvs (zb 32)) (bvs res) rfl rfl hZ2 (by rw [bvs_length]; exact HRL.out) (by rw [bvs_length, zb_length]; omega) (bvs_one _) ?_
    intro w4 hb4 hg4 hs4
    have hS3 := hS2.grown hg4 (by simp)
    refine hK _ _ (fun _ => hS3) ?_; clear hK
    refine rg_take (v := ?v2_5) rfl rfl hS3 ?y2_5 ?_
    case y2_5 => intro W hW; (try subst hW); go_simp; try with_reducible rfl
    simp only [Act.put, List.setIfInBounds_toArray, List.set_cons_zero, List.set_cons_succ]
    refine rg_done (by kernel_rfl) ?_
    go_wp2_with fail
    (try simp only [Exit.inBlock, Exit.then])
    rw [splice_all _ _ (by rw [bvs_length, bvs_length, zb_length]; exact HRL.out.symm)] at hb4
    refine bodyPost_ret (ret_cell_tmp rfl at22w _ _ (w.heap.size + 1) 22 (bvs res) rfl hb4 (by rw [bvs_length]; exact HRL.out)) rfl ?_
    have hB0 : Below w.heap.size w w0.drew := c0.drew
    have hB1 := bthen hB0 hw1 hB0.size
    have hB3 := bthen hB1 hw3 hB1.size
    exact ⟨rfl, hB3.grown hg4 hB3.size (by intro k hk; cases hk; omega)⟩
end Go.Proofs.Ytehbahobkgoapaa
