import Derived.Deep.Slices
import Derived.Test.YtehbahobkgoapaaPCF3
namespace Go.Proofs.Ytehbahobkgoapaa
open Go Go.RowKit
set_option linter.unusedSimpArgs false
set_option linter.unusedVariables false
set_option maxRecDepth 100000 in
set_option maxHeartbeats 8000000 in
theorem chain_folds (h g : List UInt8) (A : Option Addr) (n c : Nat) (a : List (List UInt8)) (B : Option Addr) (m d : Nat) (b : List (List UInt8)) (w : World) (lh : h.length = 32) (lg : g.length = 32) (h1 : Hl w A n c a) (h2 : Hl w B m d b) :
    Calls Try.prog 19 #[.agg (bvs h).toArray, .agg (bvs g).toArray, .slice A n c, .slice B m d] w fun e w' => e = .returned (.bool true) ∧ Below w.heap.size w w' := by
  have hnm : n ≤ maxLen := Nat.le_trans h1.cap h1.max
  have hmm : m ≤ maxLen := Nat.le_trans h2.cap h2.max
  unfold maxLen at hnm hmm
  have b1 : Blk (w.alloc (.cells (bvs h).toArray 25)) w.heap.size 25 (bvs h) := Blk.new _ _ _
  have b2 : Blk ((w.alloc (.cells (bvs h).toArray 25)).alloc (.cells (bvs g).toArray 25)) (w.heap.size + 1) 25 (bvs g) := by
    have := Blk.new (w.alloc (.cells (bvs h).toArray 25)) 25 (bvs g)
    rwa [show (w.alloc (.cells (bvs h).toArray 25)).heap.size = w.heap.size + 1 by simp] at this
  have hall : Blk ((w.alloc (.cells (bvs h).toArray 25)).alloc (.cells (bvs g).toArray 25)) w.heap.size 25 (bvs h) ∧ Blk ((w.alloc (.cells (bvs h).toArray 25)).alloc (.cells (bvs g).toArray 25)) (w.heap.size + 1) 25 (bvs g) ∧ Below w.heap.size w ((w.alloc (.cells (bvs h).toArray 25)).alloc (.cells (bvs g).toArray 25)) := ⟨(b1.alloc (.cells (bvs g).toArray 25)), b2, (((Below.refl w.heap.size w).alloc (by first | exact Nat.le_refl _ | (simp; done) | (simp; omega)) (.cells (bvs h).toArray 25)).alloc (by first | exact Nat.le_refl _ | (simp; done) | (simp; omega)) (.cells (bvs g).toArray 25))⟩
  clear b1 b2
  by_cases hn : 40 < n
  · have hz : (40 : Int) < (n : Int) := by omega
    go_enter Try.func19, Try.ntmps19
    go_upto_region 1 with fail
    generalize hW : World.alloc (World.alloc w _) _ = w0
    have h3 : Blk w0 w.heap.size 25 (bvs h) ∧ Blk w0 (w.heap.size + 1) 25 (bvs g) ∧ Below w.heap.size w w0 := by rw [← hW]; exact hall
    clear hall hW
    obtain ⟨c1, c2, c0⟩ := h3
    go_wp2_with fail
    go_ret
    exact ⟨rfl, c0⟩
  · have hz : ¬ (40 : Int) < (n : Int) := by omega
    by_cases hm : 40 < m
    · have hz2 : (40 : Int) < (m : Int) := by omega
      go_enter Try.func19, Try.ntmps19
      go_upto_region 1 with fail
      generalize hW : World.alloc (World.alloc w _) _ = w0
      have h3 : Blk w0 w.heap.size 25 (bvs h) ∧ Blk w0 (w.heap.size + 1) 25 (bvs g) ∧ Below w.heap.size w w0 := by rw [← hW]; exact hall
      clear hall hW
      obtain ⟨c1, c2, c0⟩ := h3
      go_wp2_with fail
      go_ret
      exact ⟨rfl, c0⟩
    · have hz2 : ¬ (40 : Int) < (m : Int) := by omega
      have LH := Lib.hid lh
      have LG := Lib.hid lg
      have HF : Hid ((foldH h a).length = 32) := Lib.hid (foldH_length h a lh)
      have CF := fun u => Lib.hid (cfirst_any u)
      have RF := fun u => Lib.hid (crfirst_any u)
      rw [show shaL [4] = firstH from rfl] at CF RF
      have HFI := Lib.hid firstH_length
      have CN := fun u => Lib.hid (cnext_any h g u lh lg)
      have RN := fun u => Lib.hid (crnext_any h g u lh lg)
      have HNL : Hid ((shaL (5 :: (h ++ g))).length = 32) := Lib.hid (shaL_length _)
      have RFO := fun (u : World) (x : Hl u A n c a) => Lib.hid (rfold_any h A n c a u lh x)
      have CFO := fun (A1 : Option Addr) (c1 : Nat) (u : World) (x : Hl u A1 n c1 a) => Lib.hid (fold_any h A1 n c1 a u lh x)
      have K1 := fun (A1 : Option Addr) (c1 : Nat) (u : World) (x : Hl u A1 n c1 a) => Lib.hid (check_any h g A1 n c1 a u lh lg x (foldH h a == g) rfl)
      have K2 := fun (A1 : Option Addr) (c1 : Nat) (u : World) (x : Hl u A1 n c1 a) => Lib.hid (check_any h (foldH h a) A1 n c1 a u lh HF.out x true (by simp))
      have S1 := fun (A1 : Option Addr) (c1 : Nat) (u : World) (x : Hl u A1 n c1 a) (y : Hl u A n c a) => Lib.hid (sameL111 A1 n c1 a A n c a u x y true (by simp))
      have S2 := fun (A1 : Option Addr) (c1 : Nat) (u : World) (x : Hl u A1 m c1 b) (y : Hl u B m d b) => Lib.hid (sameL111 A1 m c1 b B m d b u x y true (by simp))
      have Z1 := fun (B1 : Option Addr) (k1 d1 : Nat) (B2 : Option Addr) (k2 d2 : Nat) (u : World) (x : Tx u B1 k1 d1 (clashR a b).1) (y : Tx u B2 k2 d2 (clashR a b).1) => Lib.hid (same_tx B1 k1 d1 _ B2 k2 d2 _ u x y true (by simp))
      have Z2 := fun (B1 : Option Addr) (k1 d1 : Nat) (B2 : Option Addr) (k2 d2 : Nat) (u : World) (x : Tx u B1 k1 d1 (clashR a b).2) (y : Tx u B2 k2 d2 (clashR a b).2) => Lib.hid (same_tx B1 k1 d1 _ B2 k2 d2 _ u x y true (by simp))
      have X1 := fun (A1 : Option Addr) (c1 : Nat) (A2 : Option Addr) (c2 : Nat) (u : World) (x : Hl u A1 n c1 a) (y : Hl u A2 m c2 b) => Lib.hid (clash102 A1 n c1 a A2 m c2 b u x y)
      have X2 := fun (u : World) (x : Hl u A n c a) (y : Hl u B m d b) => Lib.hid (clash103 A n c a B m d b u x y)
      obtain ⟨E, hE⟩ : ∃ E, (foldH h a == g) = E := ⟨_, rfl⟩
      rw [hE] at K1
      have HE := Lib.hid hE
      clear hE lh lg
      generalize shaL (5 :: (h ++ g)) = hng at *
      generalize foldH h a = fo at *
      generalize firstH = FH at *
      generalize clashR a b = cr at *
      generalize clashes a b = ck at *
      unfold arr8 at *
      go_enter Try.func19, Try.ntmps19
      go_upto_region 1 with fail
      generalize hW : World.alloc (World.alloc w _) _ = w0
      have h3 : Blk w0 w.heap.size 25 (bvs h) ∧ Blk w0 (w.heap.size + 1) 25 (bvs g) ∧ Below w.heap.size w w0 := by rw [← hW]; exact hall
      clear hall hW
      obtain ⟨c1, c2, c0⟩ := h3
      have ha := h1.below c0
      have hb := h2.below c0
      have z124 : ∀ u : World, Hid (Blk (u.alloc (.cells #[.slice none 0 0, .slice none 0 0] 124)) u.heap.size 124 [.slice none 0 0, .slice none 0 0]) := fun u => Lib.hid (Blk.new u 124 [.slice none 0 0, .slice none 0 0])
      have z25 : ∀ u : World, Hid (Blk (u.alloc (.cells (bvs (zb 32)).toArray 25)) u.heap.size 25 (bvs (zb 32))) := fun u => Lib.hid (Blk.new _ _ _)
      go_upto_region 3 with fail
      refine wp_region_lit ?_
      refine wpList_yield rfl _ (exec_move _ rfl) ?_
      simp only [Act.put, Act.eval, Array.getD_eq_getD_getElem?, List.getElem?_toArray, List.getElem?_cons_succ, List.getElem?_cons_zero, Option.getD_some, List.setIfInBounds_toArray, List.set_cons_zero, List.set_cons_succ]
      refine wpList_plain rfl fun K hK => ?_; go_simp
      with_reducible refine (copyH_any A n c a w0 ha (by omega)).mono ?_
      rintro e w1 ⟨v1, rfl, o1, hw1⟩
      obtain ⟨A1, c3, rfl, x1⟩ := own_hl o1 ha.len ha.each
      have hb1 := hb.below hw1
      refine hK _ _ ?_; clear hK
      (try simp only [Act.put, List.setIfInBounds_toArray, List.set_cons_zero, List.set_cons_succ])
      refine wpList_yield rfl _ (exec_move _ rfl) ?_
      simp only [Act.put, Act.eval, Array.getD_eq_getD_getElem?, List.getElem?_toArray, List.getElem?_cons_succ, List.getElem?_cons_zero, Option.getD_some, List.setIfInBounds_toArray, List.set_cons_zero, List.set_cons_succ]
      refine wpList_plain rfl fun K hK => ?_; go_simp
      with_reducible refine (copyH_any B m d b w1 hb1 (by omega)).mono ?_
      rintro e w2 ⟨v2, rfl, o2, hw2⟩
      obtain ⟨A2, c4, rfl, x2⟩ := own_hl o2 hb.len hb.each
      refine hK _ _ ?_; clear hK
      (try simp only [Act.put, List.setIfInBounds_toArray, List.set_cons_zero, List.set_cons_succ])
      refine wpList_yield rfl _ (exec_assign _ rfl) ?_
      simp only [Act.put, Act.eval, Array.getD_eq_getD_getElem?, List.getElem?_toArray, List.getElem?_cons_succ, List.getElem?_cons_zero, Option.getD_some, List.setIfInBounds_toArray, List.set_cons_zero, List.set_cons_succ]
      refine wpList_yield rfl _ (exec_assign _ rfl) ?_
      simp only [Act.put, Act.eval, Array.getD_eq_getD_getElem?, List.getElem?_toArray, List.getElem?_cons_succ, List.getElem?_cons_zero, Option.getD_some, List.setIfInBounds_toArray, List.set_cons_zero, List.set_cons_succ]
      refine wpList_nil ?_
      have hB2 : Below w0.heap.size w0 w2 := bthen hw1 hw2 hw1.size
      have y1 := x1.below hw2
      clear o1 o2 x1 hb1 hw1 hw2
      go_upto_region 4 with fail
      refine wp_region_lit ?_
      refine wpList_yield rfl _ (exec_move _ rfl) ?_
      simp only [Act.put, Act.eval, Array.getD_eq_getD_getElem?, List.getElem?_toArray, List.getElem?_cons_succ, List.getElem?_cons_zero, Option.getD_some, List.setIfInBounds_toArray, List.set_cons_zero, List.set_cons_succ]
      refine wpList_yield rfl _ (exec_move _ rfl) ?_
      simp only [Act.put, Act.eval, Array.getD_eq_getD_getElem?, List.getElem?_toArray, List.getElem?_cons_succ, List.getElem?_cons_zero, Option.getD_some, List.setIfInBounds_toArray, List.set_cons_zero, List.set_cons_succ]
      refine wpList_plain rfl fun K hK => ?_; go_simp
      with_reducible refine (X1 A1 c3 A2 c4 w2 y1 x2).out.mono ?_
      rintro e w3 ⟨B1, k1, d1, B2, k2, d2, rfl, t1, t2, hw3⟩
      refine hK _ _ ?_; clear hK
      (try simp only [Act.put, List.setIfInBounds_toArray, List.set_cons_zero, List.set_cons_succ])
      refine wpList_yield rfl _ (exec_move _ rfl) ?_
      simp only [Act.put, Act.eval, Array.getD_eq_getD_getElem?, List.getElem?_toArray, List.getElem?_cons_succ, List.getElem?_cons_zero, Option.getD_some, List.setIfInBounds_toArray, List.set_cons_zero, List.set_cons_succ]
      refine wpList_yield rfl ?vp1_4 ?yp1_4 ?_
      case yp1_4 => go_simp; try with_reducible rfl
      simp only [Act.put, List.setIfInBounds_toArray, List.set_cons_zero, List.set_cons_succ]
      refine wpList_yield rfl ?vp2_5 ?yp2_5 ?_
      case yp2_5 => go_simp; try with_reducible rfl
      simp only [Act.put, List.setIfInBounds_toArray, List.set_cons_zero, List.set_cons_succ]
      refine wpList_plain rfl fun K hK => ?_; go_simp
      refine hK _ _ ?_; clear hK
      (try simp only [Act.put, List.setIfInBounds_toArray, List.set_cons_zero, List.set_cons_succ])
      refine wpList_store_at at124.i rfl (.tmp 11) (.tmp 32) rfl w3.heap.size 0 124 [.slice none 0 0, .slice none 0 0] [.slice B1 k1 d1, .slice B2 k2 d2] rfl rfl (z124 w3).out rfl (Nat.le_refl 2) (by simp [Value.oneCell']) ?_
      intro w4 hb4 hg4 hs4
      (try simp only [Act.put, List.setIfInBounds_toArray, List.set_cons_zero, List.set_cons_succ])
      refine wpList_yield rfl _ (exec_assign _ rfl) ?_
      simp only [Act.put, Act.eval, Array.getD_eq_getD_getElem?, List.getElem?_toArray, List.getElem?_cons_succ, List.getElem?_cons_zero, Option.getD_some, List.setIfInBounds_toArray, List.set_cons_zero, List.set_cons_succ]
      refine wpList_nil ?_
      rw [splice_all _ _ (by rfl)] at hb4
      have hB34 : Below w3.heap.size w3 w4 := ((Below.refl w3.heap.size w3).alloc (Nat.le_refl _) _).grown hg4 (by simp) (by intro k hk; cases hk; exact Nat.le_refl _)
      have hB24 : Below w2.heap.size w2 w4 := hw3.trans (hB34.mono hw3.size)
      have hB4 := bthen hB2 hB24 hB2.size
      have t3 := t1.below hB34
      have t4 := t2.below hB34
      have y2 := y1.below hB24
      have x3 := x2.below hB24
      clear hB34 hw3 hg4 hs4 t1 t2 y1 x2
      generalize w3.heap.size = G4 at *
      go_upto_region 5 with fail
      refine wp_region_lit ?_
      refine wpList_yield rfl _ (exec_move _ rfl) ?_
      simp only [Act.put, Act.eval, Array.getD_eq_getD_getElem?, List.getElem?_toArray, List.getElem?_cons_succ, List.getElem?_cons_zero, Option.getD_some, List.setIfInBounds_toArray, List.set_cons_zero, List.set_cons_succ]
      refine wpList_yield rfl _ (exec_move _ rfl) ?_
      simp only [Act.put, Act.eval, Array.getD_eq_getD_getElem?, List.getElem?_toArray, List.getElem?_cons_succ, List.getElem?_cons_zero, Option.getD_some, List.setIfInBounds_toArray, List.set_cons_zero, List.set_cons_succ]
      refine wpList_plain rfl fun K hK => ?_; go_simp
      with_reducible refine (X2 w4 (ha.below hB4) (hb.below hB4)).out.mono ?_
      rintro e w5 ⟨D1, i1, j1, D2, i2, j2, rfl, s1, s2, hw5⟩
      refine hK _ _ ?_; clear hK
      (try simp only [Act.put, List.setIfInBounds_toArray, List.set_cons_zero, List.set_cons_succ])
      refine wpList_yield rfl _ (exec_move _ rfl) ?_
      simp only [Act.put, Act.eval, Array.getD_eq_getD_getElem?, List.getElem?_toArray, List.getElem?_cons_succ, List.getElem?_cons_zero, Option.getD_some, List.setIfInBounds_toArray, List.set_cons_zero, List.set_cons_succ]
      refine wpList_yield rfl ?vp3_4 ?yp3_4 ?_
      case yp3_4 => go_simp; try with_reducible rfl
      simp only [Act.put, List.setIfInBounds_toArray, List.set_cons_zero, List.set_cons_succ]
      refine wpList_yield rfl ?vp4_5 ?yp4_5 ?_
      case yp4_5 => go_simp; try with_reducible rfl
      simp only [Act.put, List.setIfInBounds_toArray, List.set_cons_zero, List.set_cons_succ]
      refine wpList_plain rfl fun K hK => ?_; go_simp
      refine hK _ _ ?_; clear hK
      (try simp only [Act.put, List.setIfInBounds_toArray, List.set_cons_zero, List.set_cons_succ])
      refine wpList_store_at at124.i rfl (.tmp 13) (.tmp 38) rfl w5.heap.size 0 124 [.slice none 0 0, .slice none 0 0] [.slice D1 i1 j1, .slice D2 i2 j2] rfl rfl (z124 w5).out rfl (Nat.le_refl 2) (by simp [Value.oneCell']) ?_
      intro w6 hb6 hg6 hs6
      (try simp only [Act.put, List.setIfInBounds_toArray, List.set_cons_zero, List.set_cons_succ])
      refine wpList_yield rfl _ (exec_assign _ rfl) ?_
      simp only [Act.put, Act.eval, Array.getD_eq_getD_getElem?, List.getElem?_toArray, List.getElem?_cons_succ, List.getElem?_cons_zero, Option.getD_some, List.setIfInBounds_toArray, List.set_cons_zero, List.set_cons_succ]
      refine wpList_nil ?_
      rw [splice_all _ _ (by rfl)] at hb6
      have hB56 : Below w5.heap.size w5 w6 := ((Below.refl w5.heap.size w5).alloc (Nat.le_refl _) _).grown hg6 (by simp) (by intro k hk; cases hk; exact Nat.le_refl _)
      have hB46 : Below w4.heap.size w4 w6 := hw5.trans (hB56.mono hw5.size)
      have hB6 := bthen hB4 hB46 hB4.size
      have t5 := t3.below hB46
      have t6 := t4.below hB46
      have s3 := s1.below hB56
      have s4 := s2.below hB56
      have y3 := y2.below hB46
      have x4 := x3.below hB46
      have hb5 := hb4.below hB46 hb4.lt
      have c3' := c1.below hB6 c1.lt
      clear hB56 hw5 hg6 hs6 s1 s2 t3 t4 y2 x3 hb4 hB2 hB24
      generalize w5.heap.size = G6 at *
      go_upto_region 6 with fail
      refine wp_region_lit ?_
      refine wpList_yield rfl _ (exec_load_agg at25w (.tmp 4) rfl w.heap.size 25 (bvs h) rfl c3' (by rw [bvs_length]; exact LH.out)) ?_
      simp only [Act.put, List.setIfInBounds_toArray, List.set_cons_zero, List.set_cons_succ]
      refine wpList_yield rfl _ (exec_move _ rfl) ?_
      simp only [Act.put, Act.eval, Array.getD_eq_getD_getElem?, List.getElem?_toArray, List.getElem?_cons_succ, List.getElem?_cons_zero, Option.getD_some, List.setIfInBounds_toArray, List.set_cons_zero, List.set_cons_succ]
      refine wpList_plain rfl fun K hK => ?_; go_simp
      with_reducible refine (RFO w6 (ha.below hB6)).out.mono ?_
      rintro e w7 ⟨rfl, hw7⟩
      refine hK _ _ ?_; clear hK
      (try simp only [Act.put, List.setIfInBounds_toArray, List.set_cons_zero, List.set_cons_succ])
      refine wpList_plain rfl fun K hK => ?_; go_simp
      refine hK _ _ ?_; clear hK
      (try simp only [Act.put, List.setIfInBounds_toArray, List.set_cons_zero, List.set_cons_succ])
      refine wpList_store_at at25w.i rfl (.tmp 15) (.tmp 42) rfl w7.heap.size 0 25 (bvs (zb 32)) (bvs fo) rfl rfl (z25 w7).out (by rw [bvs_length]; exact HF.out) (by rw [bvs_length, zb_length]; omega) (bvs_one _) ?_
      intro w8 hb8 hg8 hs8
      (try simp only [Act.put, List.setIfInBounds_toArray, List.set_cons_zero, List.set_cons_succ])
      refine wpList_nil ?_
      rw [splice_all _ _ (by rw [bvs_length, bvs_length, zb_length, HF.out])] at hb8
      have hB78 : Below w7.heap.size w7 w8 := ((Below.refl w7.heap.size w7).alloc (Nat.le_refl _) _).grown hg8 (by simp) (by intro k hk; cases hk; exact Nat.le_refl _)
      have hB68 : Below w6.heap.size w6 w8 := hw7.trans (hB78.mono hw7.size)
      have hB8 := bthen hB6 hB68 hB6.size
      have t7 := t5.below hB68
      have t8 := t6.below hB68
      have s5 := s3.below hB68
      have s6 := s4.below hB68
      have y4 := y3.below hB68
      have x5 := x4.below hB68
      have p4 := hb5.below hB68 hb5.lt
      have p6 := hb6.below hB68 hb6.lt
      have ph := c1.below hB8 c1.lt
      have pg := c2.below hB8 c2.lt
      have ya := ha.below hB8
      have yb := hb.below hB8
      clear hB78 hw7 hg8 hs8 t5 t6 s3 s4 y3 x4 hb5 hb6 hB4 hB46 hB68 hB6 c3' z124 z25 X1 X2 RFO
      generalize w7.heap.size = G8 at *
      go_upto_region 7 with fail
      refine rg_begin (Below w8.heap.size w8) [] [4, 11, 22, 27, 28, 34, 37] [0, 1, 2, 3, 4, 5, 6, 7, 8, 9, 10, 11, 12, 13, 14, 15, 16, 17, 18, 19, 20, 21, 23, 22, 24, 25, 26, 27, 28, 29, 30, 31, 32, 33, 35, 36, 34, 37, 38, 39] 0 mixed (by kernel_rfl) (fun _ _ _ _ e hh => ⟨e.symm.trans hh.1, hh.2⟩) ?_
      simp only [pick, List.map_cons, List.map_nil, List.getD_cons_zero, List.getD_cons_succ]
      have hS : (Below w8.heap.size w8) _ := (Below.refl _ _).drew
      refine rg_take rfl rfl hS (fun W hW => exec_g0 _ rfl G4 rfl) ?_
      simp only [Act.put, List.setIfInBounds_toArray, List.set_cons_zero, List.set_cons_succ]
      refine rg_take rfl rfl hS (fun W hW => exec_load24 _ rfl _ _ rfl (pair_blk (p4.below hW p4.lt)).1) ?_
      simp only [Act.put, List.setIfInBounds_toArray, List.set_cons_zero, List.set_cons_succ]
      refine rg_take rfl rfl hS (fun W hW => exec_g0 _ rfl G6 rfl) ?_
      simp only [Act.put, List.setIfInBounds_toArray, List.set_cons_zero, List.set_cons_succ]
      refine rg_take rfl rfl hS (fun W hW => exec_load24 _ rfl _ _ rfl (pair_blk (p6.below hW p6.lt)).1) ?_
      simp only [Act.put, List.setIfInBounds_toArray, List.set_cons_zero, List.set_cons_succ]
      refine rg_one rfl rfl ?_; intro K hK; go_simp
      with_reducible refine (Z1 _ _ _ _ _ _ _ (t7.below hS) (s5.below hS)).out.mono ?_
      rintro e _ ⟨rfl, rfl⟩
      refine hK _ _ (fun _ => hS) ?_; clear hK
      refine rg_take (v := ?v5_5) rfl rfl hS ?y5_5 ?_
      case y5_5 => intro W hW; (try subst hW); go_simp; try with_reducible rfl
      simp only [Act.put, List.setIfInBounds_toArray, List.set_cons_zero, List.set_cons_succ]
      refine rg_take (v := ?v5_6) rfl rfl hS ?y5_6 ?_
      case y5_6 => intro W hW; (try subst hW); go_simp; try with_reducible rfl
      simp only [Act.put, List.setIfInBounds_toArray, List.set_cons_zero, List.set_cons_succ]
      refine rg_take rfl rfl hS (fun W hW => exec_g1 _ rfl G4 rfl) ?_
      simp only [Act.put, List.setIfInBounds_toArray, List.set_cons_zero, List.set_cons_succ]
      refine rg_take rfl rfl hS (fun W hW => exec_load24 _ rfl _ _ rfl (pair_blk (p4.below hW p4.lt)).2) ?_
      simp only [Act.put, List.setIfInBounds_toArray, List.set_cons_zero, List.set_cons_succ]
      refine rg_take rfl rfl hS (fun W hW => exec_g1 _ rfl G6 rfl) ?_
      simp only [Act.put, List.setIfInBounds_toArray, List.set_cons_zero, List.set_cons_succ]
      refine rg_take rfl rfl hS (fun W hW => exec_load24 _ rfl _ _ rfl (pair_blk (p6.below hW p6.lt)).2) ?_
      simp only [Act.put, List.setIfInBounds_toArray, List.set_cons_zero, List.set_cons_succ]
      refine rg_one rfl rfl ?_; intro K hK; go_simp
      with_reducible refine (Z2 _ _ _ _ _ _ _ (t8.below hS) (s6.below hS)).out.mono ?_
      rintro e _ ⟨rfl, rfl⟩
      refine hK _ _ (fun _ => hS) ?_; clear hK
      refine rg_take (v := ?v5_12) rfl rfl hS ?y5_12 ?_
      case y5_12 => intro W hW; (try subst hW); go_simp; try with_reducible rfl
      simp only [Act.put, List.setIfInBounds_toArray, List.set_cons_zero, List.set_cons_succ]
      refine rg_take (v := ?v5_13) rfl rfl hS ?y5_13 ?_
      case y5_13 => intro W hW; (try subst hW); go_simp; try with_reducible rfl
      simp only [Act.put, List.setIfInBounds_toArray, List.set_cons_zero, List.set_cons_succ]
      refine rg_take (v := ?v5_14) rfl rfl hS ?y5_14 ?_
      case y5_14 => intro W hW; (try subst hW); go_simp; try with_reducible rfl
      simp only [Act.put, List.setIfInBounds_toArray, List.set_cons_zero, List.set_cons_succ]
      refine rg_take (v := ?v5_15) rfl rfl hS ?y5_15 ?_
      case y5_15 => intro W hW; (try subst hW); go_simp; try with_reducible rfl
      simp only [Act.put, List.setIfInBounds_toArray, List.set_cons_zero, List.set_cons_succ]
      refine rg_take (v := ?v5_16) rfl rfl hS ?y5_16 ?_
      case y5_16 => intro W hW; (try subst hW); go_simp; try with_reducible rfl
      simp only [Act.put, List.setIfInBounds_toArray, List.set_cons_zero, List.set_cons_succ]
      refine rg_take (v := ?v5_17) rfl rfl hS ?y5_17 ?_
      case y5_17 => intro W hW; (try subst hW); go_simp; try with_reducible rfl
      simp only [Act.put, List.setIfInBounds_toArray, List.set_cons_zero, List.set_cons_succ]
      refine rg_take (v := ?v5_18) rfl rfl hS ?y5_18 ?_
      case y5_18 => intro W hW; (try subst hW); go_simp; try with_reducible rfl
      simp only [Act.put, List.setIfInBounds_toArray, List.set_cons_zero, List.set_cons_succ]
      refine rg_take (v := ?v5_19) rfl rfl hS ?y5_19 ?_
      case y5_19 => intro W hW; (try subst hW); go_simp; try with_reducible rfl
      simp only [Act.put, List.setIfInBounds_toArray, List.set_cons_zero, List.set_cons_succ]
      refine rg_take rfl rfl hS (fun W hW => exec_load_agg at25w (.tmp 4) rfl w.heap.size 25 (bvs h) rfl (ph.below hW ph.lt) (by rw [bvs_length]; exact LH.out)) ?_
      simp only [Act.put, List.setIfInBounds_toArray, List.set_cons_zero, List.set_cons_succ]
      refine rg_take (v := ?v5_21) rfl rfl hS ?y5_21 ?_
      case y5_21 => intro W hW; (try subst hW); go_simp; try with_reducible rfl
      simp only [Act.put, List.setIfInBounds_toArray, List.set_cons_zero, List.set_cons_succ]
      refine rg_take rfl rfl hS (fun W hW => exec_load_agg at25w (.tmp 15) rfl G8 25 (bvs fo) rfl (hb8.below hW hb8.lt) (by rw [bvs_length]; exact HF.out)) ?_
      simp only [Act.put, List.setIfInBounds_toArray, List.set_cons_zero, List.set_cons_succ]
      refine rg_one rfl rfl ?_; intro K hK; go_simp
      with_reducible refine (CFO _ _ _ (y4.below hS)).out.mono ?_
      rintro e w7_3 ⟨rfl, hw7_3⟩
      have hS7_3 : Below w8.heap.size w8 w7_3 := Below.trans hS (hw7_3.mono (Below.size hS))
      refine hK _ _ (fun _ => hS7_3) ?_; clear hK
      refine rg_take rfl rfl hS7_3 (fun W hW => exec_neq_same ab25 _ _ rfl fo rfl rfl HF.out) ?_
      simp only [Act.put, List.setIfInBounds_toArray, List.set_cons_zero, List.set_cons_succ]
      refine rg_take (v := ?v5_25) rfl rfl hS7_3 ?y5_25 ?_
      case y5_25 => intro W hW; (try subst hW); go_simp; try with_reducible rfl
      simp only [Act.put, List.setIfInBounds_toArray, List.set_cons_zero, List.set_cons_succ]
      refine rg_take (v := ?v5_26) rfl rfl hS7_3 ?y5_26 ?_
      case y5_26 => intro W hW; (try subst hW); go_simp; try with_reducible rfl
      simp only [Act.put, List.setIfInBounds_toArray, List.set_cons_zero, List.set_cons_succ]
      refine rg_one rfl rfl ?_; intro K hK; go_simp
      with_reducible refine (CF _).out.mono ?_
      rintro e w7_4 ⟨rfl, hw7_4⟩
      have hS7_4 : Below w8.heap.size w8 w7_4 := Below.trans hS7_3 (hw7_4.mono (Below.size hS7_3))
      refine hK _ _ (fun _ => hS7_4) ?_; clear hK
      refine rg_one rfl rfl ?_; intro K hK; go_simp
      with_reducible refine (RF _).out.mono ?_
      rintro e w7_5 ⟨rfl, hw7_5⟩
      have hS7_5 : Below w8.heap.size w8 w7_5 := Below.trans hS7_4 (hw7_5.mono (Below.size hS7_4))
      refine hK _ _ (fun _ => hS7_5) ?_; clear hK
      refine rg_take rfl rfl hS7_5 (fun W hW => exec_neq_same ab25 _ _ rfl FH rfl rfl HFI.out) ?_
      simp only [Act.put, List.setIfInBounds_toArray, List.set_cons_zero, List.set_cons_succ]
      refine rg_take (v := ?v5_30) rfl rfl hS7_5 ?y5_30 ?_
      case y5_30 => intro W hW; (try subst hW); go_simp; try with_reducible rfl
      simp only [Act.put, List.setIfInBounds_toArray, List.set_cons_zero, List.set_cons_succ]
      refine rg_take (v := ?v5_31) rfl rfl hS7_5 ?y5_31 ?_
      case y5_31 => intro W hW; (try subst hW); go_simp; try with_reducible rfl
      simp only [Act.put, List.setIfInBounds_toArray, List.set_cons_zero, List.set_cons_succ]
      refine rg_take rfl rfl hS7_5 (fun W hW => exec_load_agg at25w (.tmp 4) rfl w.heap.size 25 (bvs h) rfl (ph.below hW ph.lt) (by rw [bvs_length]; exact LH.out)) ?_
      simp only [Act.put, List.setIfInBounds_toArray, List.set_cons_zero, List.set_cons_succ]
      refine rg_take rfl rfl hS7_5 (fun W hW => exec_load_agg at25w (.tmp 5) rfl (w.heap.size + 1) 25 (bvs g) rfl (pg.below hW pg.lt) (by rw [bvs_length]; exact LG.out)) ?_
      simp only [Act.put, List.setIfInBounds_toArray, List.set_cons_zero, List.set_cons_succ]
      refine rg_take rfl rfl hS7_5 (fun W hW => exec_load_agg at25w (.tmp 4) rfl w.heap.size 25 (bvs h) rfl (ph.below hW ph.lt) (by rw [bvs_length]; exact LH.out)) ?_
      simp only [Act.put, List.setIfInBounds_toArray, List.set_cons_zero, List.set_cons_succ]
      refine rg_take rfl rfl hS7_5 (fun W hW => exec_load_agg at25w (.tmp 5) rfl (w.heap.size + 1) 25 (bvs g) rfl (pg.below hW pg.lt) (by rw [bvs_length]; exact LG.out)) ?_
      simp only [Act.put, List.setIfInBounds_toArray, List.set_cons_zero, List.set_cons_succ]
      refine rg_one rfl rfl ?_; intro K hK; go_simp
      with_reducible refine (CN _).out.mono ?_
      rintro e w7_6 ⟨rfl, hw7_6⟩
      have hS7_6 : Below w8.heap.size w8 w7_6 := Below.trans hS7_5 (hw7_6.mono (Below.size hS7_5))
      refine hK _ _ (fun _ => hS7_6) ?_; clear hK
      refine rg_one rfl rfl ?_; intro K hK; go_simp
      with_reducible refine (RN _).out.mono ?_
      rintro e w7_7 ⟨rfl, hw7_7⟩
      have hS7_7 : Below w8.heap.size w8 w7_7 := Below.trans hS7_6 (hw7_7.mono (Below.size hS7_6))
      refine hK _ _ (fun _ => hS7_7) ?_; clear hK
      refine rg_take rfl rfl hS7_7 (fun W hW => exec_neq_same ab25 _ _ rfl hng rfl rfl HNL.out) ?_
      simp only [Act.put, List.setIfInBounds_toArray, List.set_cons_zero, List.set_cons_succ]
      refine rg_take (v := ?v5_39) rfl rfl hS7_7 ?y5_39 ?_
      case y5_39 => intro W hW; (try subst hW); go_simp; try with_reducible rfl
      simp only [Act.put, List.setIfInBounds_toArray, List.set_cons_zero, List.set_cons_succ]
      refine rg_done (by kernel_rfl) ?_
      obtain ⟨w9, hw9d⟩ : ∃ w9, w9 = w7_7 := ⟨_, rfl⟩
      have hS9 : Below w8.heap.size w8 w7_7 := hS7_7
      rw [← hw9d] at hS9 ⊢
      clear hS7_3 hS7_4 hS7_5 hS7_6 hS7_7 hw7_3 hw7_4 hw7_5 hw7_6 hw7_7 hw9d
      go_upto_region 9 with fail
      refine rg_begin (Below w8.heap.size w8) [] [3, 12, 17, 22] [0, 1, 2, 4, 5, 6, 3, 7, 8, 9, 10, 11, 12, 13, 14, 15, 16, 17, 18, 19, 20, 21, 22, 23, 24] 0 mixed (by kernel_rfl) (fun _ _ _ _ e hh => ⟨e.symm.trans hh.1, hh.2⟩) ?_
      simp only [pick, List.map_cons, List.map_nil, List.getD_cons_zero, List.getD_cons_succ]
      have hS : (Below w8.heap.size w8) _ := hS9.drew
      refine rg_take rfl rfl hS (fun W hW => exec_load_agg at25w (.tmp 4) rfl w.heap.size 25 (bvs h) rfl (ph.below hW ph.lt) (by rw [bvs_length]; exact LH.out)) ?_
      simp only [Act.put, List.setIfInBounds_toArray, List.set_cons_zero, List.set_cons_succ]
      refine rg_take rfl rfl hS (fun W hW => exec_load_agg at25w (.tmp 5) rfl (w.heap.size + 1) 25 (bvs g) rfl (pg.below hW pg.lt) (by rw [bvs_length]; exact LG.out)) ?_
      simp only [Act.put, List.setIfInBounds_toArray, List.set_cons_zero, List.set_cons_succ]
      refine rg_take (v := ?v6_2) rfl rfl hS ?y6_2 ?_
      case y6_2 => intro W hW; (try subst hW); go_simp; try with_reducible rfl
      simp only [Act.put, List.setIfInBounds_toArray, List.set_cons_zero, List.set_cons_succ]
      refine rg_take rfl rfl hS (fun W hW => exec_load_agg at25w (.tmp 15) rfl G8 25 (bvs fo) rfl (hb8.below hW hb8.lt) (by rw [bvs_length]; exact HF.out)) ?_
      simp only [Act.put, List.setIfInBounds_toArray, List.set_cons_zero, List.set_cons_succ]
      refine rg_take rfl rfl hS (fun W hW => exec_load_agg at25w (.tmp 5) rfl (w.heap.size + 1) 25 (bvs g) rfl (pg.below hW pg.lt) (by rw [bvs_length]; exact LG.out)) ?_
      simp only [Act.put, List.setIfInBounds_toArray, List.set_cons_zero, List.set_cons_succ]
      refine rg_take rfl rfl hS (fun W hW => exec_eql_to ab25 _ _ rfl fo g rfl rfl HF.out LG.out HE.out) ?_
      simp only [Act.put, List.setIfInBounds_toArray, List.set_cons_zero, List.set_cons_succ]
      refine rg_one rfl rfl ?_; intro K hK; go_simp
      with_reducible refine (K1 _ _ _ (y4.below hS)).out.mono ?_
      rintro e w9_1 ⟨rfl, hw9_1⟩
      have hS9_1 : Below w8.heap.size w8 w9_1 := Below.trans hS (hw9_1.mono (Below.size hS))
      refine hK _ _ (fun _ => hS9_1) ?_; clear hK
      refine rg_take (v := ?v6_7) rfl rfl hS9_1 ?y6_7 ?_
      case y6_7 => intro W hW; (try subst hW); go_simp; try with_reducible rfl
      simp only [Act.put, List.setIfInBounds_toArray, List.set_cons_zero, List.set_cons_succ]
      refine rg_take (v := ?v6_8) rfl rfl hS9_1 ?y6_8 ?_
      case y6_8 => intro W hW; (try subst hW); go_simp; try with_reducible rfl
      simp only [Act.put, List.setIfInBounds_toArray, List.set_cons_zero, List.set_cons_succ]
      refine rg_take rfl rfl hS9_1 (fun W hW => exec_load_agg at25w (.tmp 4) rfl w.heap.size 25 (bvs h) rfl (ph.below hW ph.lt) (by rw [bvs_length]; exact LH.out)) ?_
      simp only [Act.put, List.setIfInBounds_toArray, List.set_cons_zero, List.set_cons_succ]
      refine rg_take rfl rfl hS9_1 (fun W hW => exec_load_agg at25w (.tmp 15) rfl G8 25 (bvs fo) rfl (hb8.below hW hb8.lt) (by rw [bvs_length]; exact HF.out)) ?_
      simp only [Act.put, List.setIfInBounds_toArray, List.set_cons_zero, List.set_cons_succ]
      refine rg_take (v := ?v6_11) rfl rfl hS9_1 ?y6_11 ?_
      case y6_11 => intro W hW; (try subst hW); go_simp; try with_reducible rfl
      simp only [Act.put, List.setIfInBounds_toArray, List.set_cons_zero, List.set_cons_succ]
      refine rg_one rfl rfl ?_; intro K hK; go_simp
      with_reducible refine (K2 _ _ _ (y4.below hS9_1)).out.mono ?_
      rintro e w9_2 ⟨rfl, hw9_2⟩
      have hS9_2 : Below w8.heap.size w8 w9_2 := Below.trans hS9_1 (hw9_2.mono (Below.size hS9_1))
      refine hK _ _ (fun _ => hS9_2) ?_; clear hK
      refine rg_take (v := ?v6_13) rfl rfl hS9_2 ?y6_13 ?_
      case y6_13 => intro W hW; (try subst hW); go_simp; try with_reducible rfl
      simp only [Act.put, List.setIfInBounds_toArray, List.set_cons_zero, List.set_cons_succ]
      refine rg_take (v := ?v6_14) rfl rfl hS9_2 ?y6_14 ?_
      case y6_14 => intro W hW; (try subst hW); go_simp; try with_reducible rfl
      simp only [Act.put, List.setIfInBounds_toArray, List.set_cons_zero, List.set_cons_succ]
      refine rg_take (v := ?v6_15) rfl rfl hS9_2 ?y6_15 ?_
      case y6_15 => intro W hW; (try subst hW); go_simp; try with_reducible rfl
      simp only [Act.put, List.setIfInBounds_toArray, List.set_cons_zero, List.set_cons_succ]
      refine rg_take (v := ?v6_16) rfl rfl hS9_2 ?y6_16 ?_
      case y6_16 => intro W hW; (try subst hW); go_simp; try with_reducible rfl
      simp only [Act.put, List.setIfInBounds_toArray, List.set_cons_zero, List.set_cons_succ]
      refine rg_one rfl rfl ?_; intro K hK; go_simp
      with_reducible refine (S1 _ _ _ (y4.below hS9_2) (ya.below hS9_2)).out.mono ?_
      rintro e w9_3 ⟨rfl, hw9_3⟩
      have hS9_3 : Below w8.heap.size w8 w9_3 := Below.trans hS9_2 (hw9_3.mono (Below.size hS9_2))
      refine hK _ _ (fun _ => hS9_3) ?_; clear hK
      refine rg_take (v := ?v6_18) rfl rfl hS9_3 ?y6_18 ?_
      case y6_18 => intro W hW; (try subst hW); go_simp; try with_reducible rfl
      simp only [Act.put, List.setIfInBounds_toArray, List.set_cons_zero, List.set_cons_succ]
      refine rg_take (v := ?v6_19) rfl rfl hS9_3 ?y6_19 ?_
      case y6_19 => intro W hW; (try subst hW); go_simp; try with_reducible rfl
      simp only [Act.put, List.setIfInBounds_toArray, List.set_cons_zero, List.set_cons_succ]
      refine rg_take (v := ?v6_20) rfl rfl hS9_3 ?y6_20 ?_
      case y6_20 => intro W hW; (try subst hW); go_simp; try with_reducible rfl
      simp only [Act.put, List.setIfInBounds_toArray, List.set_cons_zero, List.set_cons_succ]
      refine rg_take (v := ?v6_21) rfl rfl hS9_3 ?y6_21 ?_
      case y6_21 => intro W hW; (try subst hW); go_simp; try with_reducible rfl
      simp only [Act.put, List.setIfInBounds_toArray, List.set_cons_zero, List.set_cons_succ]
      refine rg_one rfl rfl ?_; intro K hK; go_simp
      with_reducible refine (S2 _ _ _ (x5.below hS9_3) (yb.below hS9_3)).out.mono ?_
      rintro e w9_4 ⟨rfl, hw9_4⟩
      have hS9_4 : Below w8.heap.size w8 w9_4 := Below.trans hS9_3 (hw9_4.mono (Below.size hS9_3))
      refine hK _ _ (fun _ => hS9_4) ?_; clear hK
      refine rg_take (v := ?v6_23) rfl rfl hS9_4 ?y6_23 ?_
      case y6_23 => intro W hW; (try subst hW); go_simp; try with_reducible rfl
      simp only [Act.put, List.setIfInBounds_toArray, List.set_cons_zero, List.set_cons_succ]
      refine rg_take (v := ?v6_24) rfl rfl hS9_4 ?y6_24 ?_
      case y6_24 => intro W hW; (try subst hW); go_simp; try with_reducible rfl
      simp only [Act.put, List.setIfInBounds_toArray, List.set_cons_zero, List.set_cons_succ]
      refine rg_done (by kernel_rfl) ?_
      go_wp2_with fail
      go_ret
      exact ⟨rfl, c0.trans ((hB8.trans (Below.mono hS9_4 hB8.size)).mono c0.size)⟩
end Go.Proofs.Ytehbahobkgoapaa
namespace Go.Proofs.Ytehbahobkgoapaa
open Go Go.RowKit Go.ChangeShapes Go.WideShapes Go.ChangeAt
section
variable {H : Type} {enc : TypeId × Value → H} {P : Program} {W : World} {base : Nat}
theorem arr_bytes {n : Nat} {T E : TypeId} {fuel : Nat} {cs : List Value} {x : DataW H × List MemPlace} (ht : P.underlying T = some (.array n E)) (he : P.underlying E = some (.int .u8)) (hc : P.cellsOf E = 1) (hl : cs.length = n)
    (hf : DataW.trod enc P W 0 (fun _ => true) true fuel T cs = some x) : ∃ k : List UInt8, k.length = n ∧ cs = bvs k := by
  obtain ⟨xs, m, _, _, _, hxl, hi⟩ := DataW.trod_array ht hf
  have hone : ∀ i, i < n → ∃ x : UInt8, cs[i]? = some (bv x) := by
    intro i hi'
    have h1 := hi i hi'
    rw [hc, Nat.mul_one, List.drop_eq_getElem_cons (by omega), List.take_succ_cons, List.take_zero, List.getElem?_eq_getElem (by omega)] at h1
    obtain ⟨z, hz, _, hw⟩ := DataW.trod_int he h1
    injection hz with hz _
    exact ⟨_, by rw [List.getElem?_eq_getElem (by omega), hz, byte_of_int hw]⟩
  obtain ⟨f, hfn⟩ := Deep.choose_lt hone
  refine ⟨(List.range n).map f, by simp, ?_⟩
  apply List.ext_getElem?
  intro i
  simp only [bvs, List.map_map, List.getElem?_map]
  by_cases h : i < n
  · rw [hfn i h, List.getElem?_range h]; rfl
  · rw [List.getElem?_eq_none (by omega), List.getElem?_eq_none (by simp; omega)]; rfl
theorem flatf_get (f : Nat → List UInt8) (n : Nat) (h : ∀ i, i < n → (f i).length = 32) (j : Nat) (hj : j < 32 * n) : (((List.range n).map f).flatten)[j]? = (f (j / 32))[j % 32]? := by
  induction n with
  | zero => omega
  | succ n ih =>
    have h' : ∀ i, i < n → (f i).length = 32 := fun i hi => h i (by omega)
    have hl : ((List.range n).map f).flatten.length = 32 * n := by
      rw [flat32_len _ (by intro l hl; simp only [List.mem_map, List.mem_range] at hl; obtain ⟨i, hi, rfl⟩ := hl; exact h' i hi)]
      simp
    rw [List.range_succ, List.map_append, List.flatten_append]
    by_cases hlt : j < 32 * n
    · rw [List.getElem?_append_left (by omega), ih h' hlt]
    · rw [List.getElem?_append_right (by omega), hl]
      have e1 : j / 32 = n := by omega
      have e2 : j % 32 = j - 32 * n := by omega
      rw [e1, e2]; simp
theorem open_digs {T E Q : TypeId} (ht : P.underlying T = some (.slice E)) (hE : P.underlying E = some (.array 32 Q)) (hQ : P.underlying Q = some (.int .u8)) (cq : P.cellsOf Q = 1) (cE : P.cellsOf E = 32) {v : Value} {d : DataW H} {p : List MemPlace}
    (hv : Value.okWide P W .any base T v) (h : DataW.Trod enc P W 0 (fun _ => true) true T v d p) :
    ∃ A n c ls, v = .slice A n c ∧ Hl W A n c ls := by
  obtain ⟨A, n, c, rfl⟩ := okWide_slice ht hv
  obtain ⟨fuel, hf⟩ := h
  rcases Deep.open_slice ht hf with ⟨hcs, hx⟩ | ⟨a, len, cap, m, k, D, Pl, hcs, _, hl, hm, hmm, hx, hi⟩
  · simp [Value.cells] at hcs
    obtain ⟨rfl, rfl, rfl⟩ := hcs
    exact ⟨none, 0, 0, [], rfl, ⟨rfl, Nat.le_refl _, by simp, Rd.nil _ _, by simp⟩⟩
  · simp [Value.cells] at hcs
    obtain ⟨rfl, rfl, rfl⟩ := hcs
    simp only [if_true] at hmm
    subst m
    rw [cE] at hi
    obtain ⟨f, hfn⟩ := Deep.choose_lt (p := fun i (l : List UInt8) => W.cells? 0 (a.add (i * 32)) 32 = some (bvs l) ∧ l.length = 32) (n := n) (fun i hin => by
      obtain ⟨cs', h1, h2⟩ := hi i (by omega)
      obtain ⟨_, hlen, _⟩ := World.cells?_some h1
      obtain ⟨l, hl1, rfl⟩ := arr_bytes hE hQ cq hlen h2
      exact ⟨l, h1, hl1⟩)
    have hfl : ((List.range n).map f).flatten.length = 32 * n := by
      rw [flat32_len _ (by intro l hl; simp only [List.mem_map, List.mem_range] at hl; obtain ⟨i, hi, rfl⟩ := hl; exact (hfn i hi).2)]
      simp
    refine ⟨some a, n, c, (List.range n).map f, rfl, ⟨by simp, hl, hm, fun _ => ⟨a, rfl, fun j u hu => ?_⟩, ?_⟩⟩
    · have hj : j < 32 * n := by
        have := (List.getElem?_eq_some_iff.1 hu).1
        rw [bvs_length, hfl] at this; exact this
      simp only [bvs, List.getElem?_map] at hu
      rw [flatf_get f n (fun i hi => (hfn i hi).2) j hj] at hu
      obtain ⟨h1, h2⟩ := hfn (j / 32) (by omega)
      obtain ⟨_, _, h3⟩ := World.cells?_some h1
      have h4 := h3 (j % 32) (by omega)
      rw [Deep.add_add, show j / 32 * 32 + j % 32 = j by omega] at h4
      rw [h4]
      simp only [bvs, List.getElem?_map]
      exact hu
    · intro l hl
      simp only [List.mem_map, List.mem_range] at hl
      obtain ⟨i, hi, rfl⟩ := hl
      exact (hfn i hi).2
end
end Go.Proofs.Ytehbahobkgoapaa
