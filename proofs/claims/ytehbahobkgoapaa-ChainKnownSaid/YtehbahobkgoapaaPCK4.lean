
import Derived.Test.YtehbahobkgoapaaPCK3
namespace Go.Proofs.Ytehbahobkgoapaa
open Go Go.RowKit
set_option linter.unusedSimpArgs false
set_option linter.unusedVariables false
theorem own_one (w : World) (x : UInt8) (v : Value) (hv : bv x = v) {base : Nat} (hb : base ≤ w.heap.size) : OwnB (w.alloc (.cells #[v] 5)) base 5 (.slice (some ⟨w.heap.size, 0, none⟩) 1 1) [x] := by
  subst hv
  have b : Blk (w.alloc (.cells #[bv x] 5)) w.heap.size 5 (bvs [x]) := Blk.new w 5 [bv x]
  exact .inr ⟨w.heap.size, [], rfl, hb, by unfold maxLen; simp, b⟩
theorem Tx.mk_ {w : World} {A : Option Addr} {n c : Nat} {l : List UInt8} (hl : l.length = n) (hc : n ≤ c) (hm : c ≤ maxLen) (hr : Rd w A (bvs l)) : Tx w A n c l := ⟨hl, hc, hm, hr, fun _ _ h => h⟩
set_option maxRecDepth 100000 in
set_option maxHeartbeats 8000000 in
theorem chain_known (w : World) : Calls Try.prog 24 #[] w fun e w' => e = .returned (.bool true) ∧ Below w.heap.size w w' := by
  have SA := fun (A : Option Addr) (u : World) (x : Tx u A 1 1 [97]) => Lib.hid (ks_a A u x)
  have SB := fun (A : Option Addr) (u : World) (x : Tx u A 1 1 [98]) => Lib.hid (ks_b A u x)
  have SF := fun (A : Option Addr) (u : World) (x : Tx u A 1 1 [4]) => Lib.hid (ks_f A u x)
  have S1 := fun (A : Option Addr) (n c : Nat) (u : World) (x : Tx u A n c (5 :: (kF ++ kA))) (hn : n = 65) => Lib.hid (ks_1 A n c u x hn)
  have FI := fun u => Lib.hid (kc_first u)
  have FR := fun (A : Option Addr) (u : World) (x : Hl u A 2 2 [kA, kB]) => Lib.hid (kc_from A u x)
  have H1 := fun (S : Nat → Prop) (g : Nat) (u : World) (q : Lg S u g [kA, kB]) => Lib.hid (kc_headAt1 g u q)
  have H2 := fun (S : Nat → Prop) (g : Nat) (u : World) (q : Lg S u g [kA, kB]) => Lib.hid (kc_headAt2 g u q)
  have H3 := fun (S : Nat → Prop) (g : Nat) (u : World) (q : Lg S u g [kA, kB]) => Lib.hid (kc_headAt3 g u q)
  have A1 := fun (S : Nat → Prop) (g : Nat) (u : World) (q : Lg S u g [kA, kB]) => Lib.hid (kc_at1 g u q)
  have A2 := fun (S : Nat → Prop) (g : Nat) (u : World) (q : Lg S u g [kA, kB]) => Lib.hid (kc_at2 g u q)
  have R1 := fun (S : Nat → Prop) (g : Nat) (u : World) (q : Lg S u g [kA, kB]) => Lib.hid (kc_roots g u q)
  have R2 := fun (S : Nat → Prop) (g : Nat) (u : World) (q : Lg S u g [kA, kB]) => Lib.hid (kc_roots' g u q)
  have F1 := fun (S : Nat → Prop) (g : Nat) (u : World) (q : Lg S u g [kA, kB]) => Lib.hid (kc_find1 g u q)
  have F2 := fun (S : Nat → Prop) (g : Nat) (u : World) (q : Lg S u g [kA, kB]) => Lib.hid (kc_finda g u q)
  have CK := fun (A : Option Addr) (u : World) (x : Hl u A 2 2 [kA, kB]) => Lib.hid (kc_check A u x)
  have CX := fun (A : Option Addr) (u : World) (x : Hl u A 2 2 [kB, kA]) => Lib.hid (kc_checkx A u x)
  have X1 := fun (A : Option Addr) (c : Nat) (u : World) (x : Hl u A 2 c [kA, kB]) => Lib.hid (kc_clash A c u x)
  have X2 := fun (A : Option Addr) (c : Nat) (u : World) (x : Hl u A 2 c [kA, kB]) => Lib.hid (kc_clash1 A c u x)
  have FU := fun (A : Option Addr) (u : World) (x : Hl u A 4096 4096 (List.replicate 4096 (zb 32))) => Lib.hid (kc_full A u x)
  have AD := fun (S : Nat → Prop) (g : Nat) (u : World) (q : Lg S u g (List.replicate 4096 (zb 32))) => Lib.hid (kc_add g u q)
  have SM := fun (A : Option Addr) (c : Nat) (B : Option Addr) (u : World) (x : Hl u A 2 c [kA, kB]) (y : Hl u B 2 2 [kA, kB]) => Lib.hid (kc_same A c B u x y)
  have AW := fun u => Lib.hid (awake_any u)
  have LA := Lib.hid k_len.1
  have LB := Lib.hid k_len.2.1
  have LF := Lib.hid k_len.2.2.1
  have L1 := Lib.hid k_len.2.2.2.1
  have L2 := Lib.hid k_len.2.2.2.2
  have LZ : Hid ((zb 32).length = 32) := Lib.hid (zb_length _)
  generalize kA = a at *
  generalize kB = b at *
  generalize kF = FH at *
  generalize k1 = h1 at *
  generalize k2 = h2 at *
  generalize hmany : List.replicate 4096 (zb 32) = many at *
  have HM := Lib.hid hmany
  clear hmany
  have z25 : ∀ u : World, Hid (Blk (u.alloc (.cells (bvs (zb 32)).toArray 25)) u.heap.size 25 (bvs (zb 32))) := fun u => Lib.hid (Blk.new _ _ _)
  have z124 : ∀ u : World, Hid (Blk (u.alloc (.cells #[.slice none 0 0, .slice none 0 0] 124)) u.heap.size 124 [.slice none 0 0, .slice none 0 0]) := fun u => Lib.hid (Blk.new u 124 [.slice none 0 0, .slice none 0 0])
  have kc := fun (w : World) (C : Array Value) (n c : Nat) => Lib.run_convert_bytes_const (P := Try.prog) w 24 5 C n c Try.underlying24 Try.underlying5
  have TA : ∀ u : World, Hid (Tx (u.alloc (.cells #[.int .u8 97] 5 (1, 2))) (some ⟨u.heap.size, 0, none⟩) 1 1 [97]) := fun u => Lib.hid
    ⟨rfl, Nat.le_refl _, by unfold maxLen; omega, marked_rd u [97] 1 2 _ rfl, fun _ _ h => h⟩
  have TB : ∀ u : World, Hid (Tx (u.alloc (.cells #[.int .u8 98] 5 (1, 2))) (some ⟨u.heap.size, 0, none⟩) 1 1 [98]) := fun u => Lib.hid
    ⟨rfl, Nat.le_refl _, by unfold maxLen; omega, marked_rd u [98] 1 2 _ rfl, fun _ _ h => h⟩
  go_enter Try.func24, Try.ntmps24
  go_upto_region 1 with fail
  refine wp_region_lit ?_
  refine wpList_plain rfl fun K hK => ?_; go_simp
  refine hK _ _ ?_; clear hK
  (try simp only [Act.put, List.setIfInBounds_toArray, List.set_cons_zero, List.set_cons_succ])
  refine wpList_plain rfl fun K hK => ?_; go_simp
  refine hK _ _ ?_; clear hK
  (try simp only [Act.put, List.setIfInBounds_toArray, List.set_cons_zero, List.set_cons_succ])
  refine wpList_plain rfl fun K hK => ?_; go_simp
  with_reducible refine (SA _ _ (TA _).out).out.mono ?_
  rintro e1 w1 ⟨rfl, hw1⟩
  have B1 : Below w.heap.size w w1 := ((Below.refl _ _).alloc (Nat.le_refl _) _).trans (hw1.mono (by simp))
  clear hw1
  refine hK _ _ ?_; clear hK
  (try simp only [Act.put, List.setIfInBounds_toArray, List.set_cons_zero, List.set_cons_succ])
  refine wpList_plain rfl fun K hK => ?_; go_simp
  refine hK _ _ ?_; clear hK
  (try simp only [Act.put, List.setIfInBounds_toArray, List.set_cons_zero, List.set_cons_succ])
  refine wpList_plain rfl fun K hK => ?_; go_simp
  refine hK _ _ ?_; clear hK
  (try simp only [Act.put, List.setIfInBounds_toArray, List.set_cons_zero, List.set_cons_succ])
  refine wpList_plain rfl fun K hK => ?_; go_simp
  with_reducible refine (SB _ _ (TB _).out).out.mono ?_
  rintro e1 w2 ⟨rfl, hw2⟩
  have B2 : Below w.heap.size w w2 := (B1.alloc B1.size _).trans (hw2.mono (by have := B1.size; simp; omega))
  clear hw2
  refine hK _ _ ?_; clear hK
  (try simp only [Act.put, List.setIfInBounds_toArray, List.set_cons_zero, List.set_cons_succ])
  refine wpList_plain rfl fun K hK => ?_; go_simp
  refine hK _ _ ?_; clear hK
  (try simp only [Act.put, List.setIfInBounds_toArray, List.set_cons_zero, List.set_cons_succ])
  refine wpList_plain rfl fun K hK => ?_; go_simp
  refine hK _ _ ?_; clear hK
  (try simp only [Act.put, List.setIfInBounds_toArray, List.set_cons_zero, List.set_cons_succ])
  generalize hW2 : World.alloc w2 _ = w3
  have b1 : Blk w3 w2.heap.size 25 (bvs (zb 32)) ∧ Below w.heap.size w w3 ∧ w3.heap.size = w2.heap.size + 1 := by rw [← hW2]; exact ⟨(z25 w2).out, B2.alloc B2.size _, by simp⟩
  clear hW2
  obtain ⟨b1, B3, s3⟩ := b1
  try rw [← s3]
  generalize hW3 : World.alloc w3 _ = w4
  have b2 : Blk w4 w3.heap.size 25 (bvs (zb 32)) ∧ Blk w4 w2.heap.size 25 (bvs (zb 32)) ∧ Below w.heap.size w w4 := by rw [← hW3]; exact ⟨(z25 w3).out, b1.alloc _, B3.alloc B3.size _⟩
  clear hW3 b1
  obtain ⟨b2, b1, B4⟩ := b2
  have hne : w3.heap.size ≠ w2.heap.size := by omega
  have q2 := B2.size
  clear B2
  have q3 := B3.size
  generalize w2.heap.size = ga at *
  generalize w3.heap.size = gb at *
  refine wpList_store_at at25w.i rfl (.tmp 1) (.tmp 36) rfl ga 0 25 (bvs (zb 32)) (bvs a) rfl rfl b1 (by rw [bvs_length]; exact LA.out) (by rw [bvs_length, zb_length]; omega) (bvs_one _) ?_
  intro w5 xa5 g5 s5
  have b5 := b2.grown g5 (fun e => hne (by have := Option.some.inj e; omega))
  have B5 := B4.grown g5 B4.size (by intro k hk; cases hk; exact q2)
  rw [splice_all _ _ (by rw [bvs_length, bvs_length, zb_length]; exact LA.out.symm)] at xa5
  clear b1 b2 g5 s5 B4
  (try simp only [Act.put, List.setIfInBounds_toArray, List.set_cons_zero, List.set_cons_succ])
  refine wpList_store_at at25w.i rfl (.tmp 2) (.tmp 39) rfl gb 0 25 (bvs (zb 32)) (bvs b) rfl rfl b5 (by rw [bvs_length]; exact LB.out) (by rw [bvs_length, zb_length]; omega) (bvs_one _) ?_
  intro w6 xb6 g6 s6
  have xa6 := xa5.grown g6 (fun e => hne (by have := Option.some.inj e; omega))
  have B6 := B5.grown g6 B5.size (by intro k hk; cases hk; exact q3)
  rw [splice_all _ _ (by rw [bvs_length, bvs_length, zb_length]; exact LB.out.symm)] at xb6
  clear b5 xa5 g6 s6 B5
  (try simp only [Act.put, List.setIfInBounds_toArray, List.set_cons_zero, List.set_cons_succ])
  refine wpList_nil ?_
  clear SA SB TA TB kc B1 B3 s3 q2 q3
  go_upto_region 2 with fail
  refine wp_region_lit ?_
  refine wpList_yield rfl _ (exec_load_agg at25w (.tmp 1) rfl ga 25 (bvs a) rfl xa6 (by rw [bvs_length]; exact LA.out)) ?_
  simp only [Act.put, List.setIfInBounds_toArray, List.set_cons_zero, List.set_cons_succ]
  refine wpList_yield rfl _ (exec_load_agg at25w (.tmp 2) rfl gb 25 (bvs b) rfl xb6 (by rw [bvs_length]; exact LB.out)) ?_
  simp only [Act.put, List.setIfInBounds_toArray, List.set_cons_zero, List.set_cons_succ]
  refine wpList_plain rfl fun K hK => ?_
  refine wp_build_dig2 a b LA.out LB.out _ _ rfl rfl rfl ?_
  have n7 : Hl (w6.alloc (.cells (bvs (a ++ b)).toArray 25)) (some ⟨w6.heap.size, 0, none⟩) 2 2 [a, b] := hl_two (Blk.new _ _ _) LA.out LB.out
  have V7 : Below w6.heap.size w6 (w6.alloc (.cells (bvs (a ++ b)).toArray 25)) := (Below.refl _ _).alloc (Nat.le_refl _) _
  refine hK _ _ ?_; clear hK
  (try simp only [Act.put, List.setIfInBounds_toArray, List.set_cons_zero, List.set_cons_succ])
  refine wpList_plain rfl fun K hK => ?_; go_simp
  with_reducible refine (FR _ _ n7).out.mono ?_
  rintro e1 w8 ⟨g, S, rfl, lg8, V8⟩
  refine hK _ _ ?_; clear hK
  (try simp only [Act.put, List.setIfInBounds_toArray, List.set_cons_zero, List.set_cons_succ])
  refine wpList_yield rfl _ (exec_move _ rfl) ?_
  simp only [Act.put, Act.eval, Array.getD_eq_getD_getElem?, List.getElem?_toArray, List.getElem?_cons_succ, List.getElem?_cons_zero, Option.getD_some, List.setIfInBounds_toArray, List.set_cons_zero, List.set_cons_succ]
  refine wpList_yield rfl ?vp1_5 ?yp1_5 ?_
  case yp1_5 => go_simp; try with_reducible rfl
  simp only [Act.put, List.setIfInBounds_toArray, List.set_cons_zero, List.set_cons_succ]
  refine wpList_yield rfl ?vp2_6 ?yp2_6 ?_
  case yp2_6 => go_simp; try with_reducible rfl
  simp only [Act.put, List.setIfInBounds_toArray, List.set_cons_zero, List.set_cons_succ]
  refine wpList_yield rfl _ (exec_assign _ rfl) ?_
  simp only [Act.put, Act.eval, Array.getD_eq_getD_getElem?, List.getElem?_toArray, List.getElem?_cons_succ, List.getElem?_cons_zero, Option.getD_some, List.setIfInBounds_toArray, List.set_cons_zero, List.set_cons_succ]
  refine wpList_yield rfl _ (exec_assign _ rfl) ?_
  simp only [Act.put, Act.eval, Array.getD_eq_getD_getElem?, List.getElem?_toArray, List.getElem?_cons_succ, List.getElem?_cons_zero, Option.getD_some, List.setIfInBounds_toArray, List.set_cons_zero, List.set_cons_succ]
  refine wpList_nil ?_
  have V8 : Below w6.heap.size w6 w8 := bthen V7 V8 V7.size
  have xa8 := xa6.below V8 xa6.lt
  have xb8 := xb6.below V8 xb6.lt
  have B8 := bthen B6 V8 B6.size
  clear V7 V8 xa6 xb6 B6 n7 FR

  go_upto_region 5 with fail
  refine wp_region_lit ?_
  refine wpList_yield rfl _ (exec_move _ rfl) ?_
  simp only [Act.put, Act.eval, Array.getD_eq_getD_getElem?, List.getElem?_toArray, List.getElem?_cons_succ, List.getElem?_cons_zero, Option.getD_some, List.setIfInBounds_toArray, List.set_cons_zero, List.set_cons_succ]
  refine wpList_plain rfl fun K hK => ?_; go_simp
  with_reducible refine (H1 S g w8 lg8).out.mono ?_
  rintro e1 w9 ⟨rfl, V9⟩
  refine hK _ _ ?_; clear hK
  (try simp only [Act.put, List.setIfInBounds_toArray, List.set_cons_zero, List.set_cons_succ])
  refine wpList_yield rfl _ (exec_move _ rfl) ?_
  simp only [Act.put, Act.eval, Array.getD_eq_getD_getElem?, List.getElem?_toArray, List.getElem?_cons_succ, List.getElem?_cons_zero, Option.getD_some, List.setIfInBounds_toArray, List.set_cons_zero, List.set_cons_succ]
  refine wpList_yield rfl ?vp3_3 ?yp3_3 ?_
  case yp3_3 => go_simp; try with_reducible rfl
  simp only [Act.put, List.setIfInBounds_toArray, List.set_cons_zero, List.set_cons_succ]
  refine wpList_yield rfl ?vp4_4 ?yp4_4 ?_
  case yp4_4 => go_simp; try with_reducible rfl
  simp only [Act.put, List.setIfInBounds_toArray, List.set_cons_zero, List.set_cons_succ]
  refine wpList_plain rfl fun K hK => ?_; go_simp
  refine hK _ _ ?_; clear hK
  (try simp only [Act.put, List.setIfInBounds_toArray, List.set_cons_zero, List.set_cons_succ])
  refine wpList_store_at at25w.i rfl (.tmp 5) (.tmp 52) rfl w9.heap.size 0 25 (bvs (zb 32)) (bvs h1) rfl rfl (z25 w9).out (by rw [bvs_length]; exact L1.out) (by rw [bvs_length, zb_length]; omega) (bvs_one _) ?_
  intro w10 xc10 g10 s10
  (try simp only [Act.put, List.setIfInBounds_toArray, List.set_cons_zero, List.set_cons_succ])
  refine wpList_yield rfl _ (exec_assign _ rfl) ?_
  simp only [Act.put, Act.eval, Array.getD_eq_getD_getElem?, List.getElem?_toArray, List.getElem?_cons_succ, List.getElem?_cons_zero, Option.getD_some, List.setIfInBounds_toArray, List.set_cons_zero, List.set_cons_succ]
  refine wpList_nil ?_
  rw [splice_all _ _ (by rw [bvs_length, bvs_length, zb_length]; exact L1.out.symm)] at xc10
  have V10 : Below w8.heap.size w8 w10 := (V9.alloc V9.size (.cells (bvs (zb 32)).toArray 25)).grown g10 (by have := V9.size; simp; omega) (by intro k hk; cases hk; exact V9.size)
  have xa10 := xa8.below V10 xa8.lt
  have xb10 := xb8.below V10 xb8.lt
  have lg10 := lg8.below V10
  have B10 := bthen B8 V10 B8.size
  clear xa8 xb8 lg8 B8 V10 V9 g10 s10 H1
  generalize w9.heap.size = G5 at *
  go_upto_region 6 with fail
  refine wp_region_lit ?_
  refine wpList_yield rfl _ (exec_move _ rfl) ?_
  simp only [Act.put, Act.eval, Array.getD_eq_getD_getElem?, List.getElem?_toArray, List.getElem?_cons_succ, List.getElem?_cons_zero, Option.getD_some, List.setIfInBounds_toArray, List.set_cons_zero, List.set_cons_succ]
  refine wpList_plain rfl fun K hK => ?_; go_simp
  with_reducible refine (A1 S g w10 lg10).out.mono ?_
  rintro e1 w11 ⟨rfl, V11⟩
  refine hK _ _ ?_; clear hK
  (try simp only [Act.put, List.setIfInBounds_toArray, List.set_cons_zero, List.set_cons_succ])
  refine wpList_yield rfl _ (exec_move _ rfl) ?_
  simp only [Act.put, Act.eval, Array.getD_eq_getD_getElem?, List.getElem?_toArray, List.getElem?_cons_succ, List.getElem?_cons_zero, Option.getD_some, List.setIfInBounds_toArray, List.set_cons_zero, List.set_cons_succ]
  refine wpList_yield rfl ?vp5_3 ?yp5_3 ?_
  case yp5_3 => go_simp; try with_reducible rfl
  simp only [Act.put, List.setIfInBounds_toArray, List.set_cons_zero, List.set_cons_succ]
  refine wpList_yield rfl ?vp6_4 ?yp6_4 ?_
  case yp6_4 => go_simp; try with_reducible rfl
  simp only [Act.put, List.setIfInBounds_toArray, List.set_cons_zero, List.set_cons_succ]
  refine wpList_plain rfl fun K hK => ?_; go_simp
  refine hK _ _ ?_; clear hK
  (try simp only [Act.put, List.setIfInBounds_toArray, List.set_cons_zero, List.set_cons_succ])
  refine wpList_store_at at25w.i rfl (.tmp 7) (.tmp 57) rfl w11.heap.size 0 25 (bvs (zb 32)) (bvs b) rfl rfl (z25 w11).out (by rw [bvs_length]; exact LB.out) (by rw [bvs_length, zb_length]; omega) (bvs_one _) ?_
  intro w12 xd12 g12 s12
  (try simp only [Act.put, List.setIfInBounds_toArray, List.set_cons_zero, List.set_cons_succ])
  refine wpList_yield rfl _ (exec_assign _ rfl) ?_
  simp only [Act.put, Act.eval, Array.getD_eq_getD_getElem?, List.getElem?_toArray, List.getElem?_cons_succ, List.getElem?_cons_zero, Option.getD_some, List.setIfInBounds_toArray, List.set_cons_zero, List.set_cons_succ]
  refine wpList_nil ?_
  rw [splice_all _ _ (by rw [bvs_length, bvs_length, zb_length]; exact LB.out.symm)] at xd12
  have V12 : Below w10.heap.size w10 w12 := (V11.alloc V11.size (.cells (bvs (zb 32)).toArray 25)).grown g12 (by have := V11.size; simp; omega) (by intro k hk; cases hk; exact V11.size)
  have xa12 := xa10.below V12 xa10.lt
  have xb12 := xb10.below V12 xb10.lt
  have lg12 := lg10.below V12
  have xc12 := xc10.below V12 xc10.lt
  have B12 := bthen B10 V12 B10.size
  clear xa10 xb10 lg10 xc10 B10 V12 V11 g12 s12 A1
  generalize w11.heap.size = G7 at *
  go_upto_region 7 with fail
  refine wp_region_lit ?_
  refine wpList_yield rfl _ (exec_move _ rfl) ?_
  simp only [Act.put, Act.eval, Array.getD_eq_getD_getElem?, List.getElem?_toArray, List.getElem?_cons_succ, List.getElem?_cons_zero, Option.getD_some, List.setIfInBounds_toArray, List.set_cons_zero, List.set_cons_succ]
  refine wpList_plain rfl fun K hK => ?_; go_simp
  with_reducible refine (A2 S g w12 lg12).out.mono ?_
  rintro e1 w13 ⟨rfl, V13⟩
  refine hK _ _ ?_; clear hK
  (try simp only [Act.put, List.setIfInBounds_toArray, List.set_cons_zero, List.set_cons_succ])
  refine wpList_yield rfl _ (exec_move _ rfl) ?_
  simp only [Act.put, Act.eval, Array.getD_eq_getD_getElem?, List.getElem?_toArray, List.getElem?_cons_succ, List.getElem?_cons_zero, Option.getD_some, List.setIfInBounds_toArray, List.set_cons_zero, List.set_cons_succ]
  refine wpList_yield rfl ?vp7_3 ?yp7_3 ?_
  case yp7_3 => go_simp; try with_reducible rfl
  simp only [Act.put, List.setIfInBounds_toArray, List.set_cons_zero, List.set_cons_succ]
  refine wpList_yield rfl ?vp8_4 ?yp8_4 ?_
  case yp8_4 => go_simp; try with_reducible rfl
  simp only [Act.put, List.setIfInBounds_toArray, List.set_cons_zero, List.set_cons_succ]
  refine wpList_plain rfl fun K hK => ?_; go_simp
  refine hK _ _ ?_; clear hK
  (try simp only [Act.put, List.setIfInBounds_toArray, List.set_cons_zero, List.set_cons_succ])
  refine wpList_store_at at25w.i rfl (.tmp 9) (.tmp 62) rfl w13.heap.size 0 25 (bvs (zb 32)) (bvs (zb 32)) rfl rfl (z25 w13).out (by rw [bvs_length]; exact LZ.out) (by rw [bvs_length, zb_length]; omega) (bvs_one _) ?_
  intro w14 zz14 g14 s14
  (try simp only [Act.put, List.setIfInBounds_toArray, List.set_cons_zero, List.set_cons_succ])
  refine wpList_yield rfl _ (exec_assign _ rfl) ?_
  simp only [Act.put, Act.eval, Array.getD_eq_getD_getElem?, List.getElem?_toArray, List.getElem?_cons_succ, List.getElem?_cons_zero, Option.getD_some, List.setIfInBounds_toArray, List.set_cons_zero, List.set_cons_succ]
  refine wpList_nil ?_
  rw [splice_all _ _ (by rw [bvs_length])] at zz14
  have V14 : Below w12.heap.size w12 w14 := (V13.alloc V13.size (.cells (bvs (zb 32)).toArray 25)).grown g14 (by have := V13.size; simp; omega) (by intro k hk; cases hk; exact V13.size)
  have xa14 := xa12.below V14 xa12.lt
  have xb14 := xb12.below V14 xb12.lt
  have lg14 := lg12.below V14
  have xc14 := xc12.below V14 xc12.lt
  have xd14 := xd12.below V14 xd12.lt
  have B14 := bthen B12 V14 B12.size
  clear xa12 xb12 lg12 xc12 xd12 B12 V14 V13 g14 s14 A2
  generalize w13.heap.size = G9 at *
  clear zz14
  go_upto_region 8 with fail
  refine wp_region_lit ?_
  refine wpList_yield rfl _ (exec_move _ rfl) ?_
  simp only [Act.put, Act.eval, Array.getD_eq_getD_getElem?, List.getElem?_toArray, List.getElem?_cons_succ, List.getElem?_cons_zero, Option.getD_some, List.setIfInBounds_toArray, List.set_cons_zero, List.set_cons_succ]
  refine wpList_plain rfl fun K hK => ?_; go_simp
  with_reducible refine (R1 S g w14 lg14).out.mono ?_
  rintro e1 w15 ⟨RB, rc, rfl, yr15, V15⟩
  refine hK _ _ ?_; clear hK
  (try simp only [Act.put, List.setIfInBounds_toArray, List.set_cons_zero, List.set_cons_succ])
  refine wpList_yield rfl _ (exec_move _ rfl) ?_
  simp only [Act.put, Act.eval, Array.getD_eq_getD_getElem?, List.getElem?_toArray, List.getElem?_cons_succ, List.getElem?_cons_zero, Option.getD_some, List.setIfInBounds_toArray, List.set_cons_zero, List.set_cons_succ]
  refine wpList_yield rfl ?vp9_3 ?yp9_3 ?_
  case yp9_3 => go_simp; try with_reducible rfl
  simp only [Act.put, List.setIfInBounds_toArray, List.set_cons_zero, List.set_cons_succ]
  refine wpList_yield rfl ?vp10_4 ?yp10_4 ?_
  case yp10_4 => go_simp; try with_reducible rfl
  simp only [Act.put, List.setIfInBounds_toArray, List.set_cons_zero, List.set_cons_succ]
  refine wpList_yield rfl _ (exec_assign _ rfl) ?_
  simp only [Act.put, Act.eval, Array.getD_eq_getD_getElem?, List.getElem?_toArray, List.getElem?_cons_succ, List.getElem?_cons_zero, Option.getD_some, List.setIfInBounds_toArray, List.set_cons_zero, List.set_cons_succ]
  refine wpList_yield rfl _ (exec_assign _ rfl) ?_
  simp only [Act.put, Act.eval, Array.getD_eq_getD_getElem?, List.getElem?_toArray, List.getElem?_cons_succ, List.getElem?_cons_zero, Option.getD_some, List.setIfInBounds_toArray, List.set_cons_zero, List.set_cons_succ]
  refine wpList_nil ?_
  have xa15 := xa14.below V15 xa14.lt
  have xb15 := xb14.below V15 xb14.lt
  have lg15 := lg14.below V15
  have xc15 := xc14.below V15 xc14.lt
  have xd15 := xd14.below V15 xd14.lt
  have B15 := bthen B14 V15 B14.size
  clear xa14 xb14 lg14 xc14 xd14 B14 V15 R1
  go_upto_region 9 with fail
  refine wp_region_lit ?_
  refine wpList_yield rfl _ (exec_move _ rfl) ?_
  simp only [Act.put, Act.eval, Array.getD_eq_getD_getElem?, List.getElem?_toArray, List.getElem?_cons_succ, List.getElem?_cons_zero, Option.getD_some, List.setIfInBounds_toArray, List.set_cons_zero, List.set_cons_succ]
  refine wpList_plain rfl fun K hK => ?_; go_simp
  with_reducible refine (R2 S g w15 lg15).out.mono ?_
  rintro e1 _ ⟨rfl, rfl⟩
  refine hK _ _ ?_; clear hK
  (try simp only [Act.put, List.setIfInBounds_toArray, List.set_cons_zero, List.set_cons_succ])
  refine wpList_yield rfl _ (exec_move _ rfl) ?_
  simp only [Act.put, Act.eval, Array.getD_eq_getD_getElem?, List.getElem?_toArray, List.getElem?_cons_succ, List.getElem?_cons_zero, Option.getD_some, List.setIfInBounds_toArray, List.set_cons_zero, List.set_cons_succ]
  refine wpList_yield rfl ?vp11_3 ?yp11_3 ?_
  case yp11_3 => go_simp; try with_reducible rfl
  simp only [Act.put, List.setIfInBounds_toArray, List.set_cons_zero, List.set_cons_succ]
  refine wpList_yield rfl ?vp12_4 ?yp12_4 ?_
  case yp12_4 => go_simp; try with_reducible rfl
  simp only [Act.put, List.setIfInBounds_toArray, List.set_cons_zero, List.set_cons_succ]
  refine wpList_yield rfl _ (exec_assign _ rfl) ?_
  simp only [Act.put, Act.eval, Array.getD_eq_getD_getElem?, List.getElem?_toArray, List.getElem?_cons_succ, List.getElem?_cons_zero, Option.getD_some, List.setIfInBounds_toArray, List.set_cons_zero, List.set_cons_succ]
  refine wpList_yield rfl _ (exec_assign _ rfl) ?_
  simp only [Act.put, Act.eval, Array.getD_eq_getD_getElem?, List.getElem?_toArray, List.getElem?_cons_succ, List.getElem?_cons_zero, Option.getD_some, List.setIfInBounds_toArray, List.set_cons_zero, List.set_cons_succ]
  refine wpList_nil ?_
  clear R2
  go_upto_region 10 with fail
  refine wp_region_lit ?_
  refine wpList_yield rfl _ (exec_move _ rfl) ?_
  simp only [Act.put, Act.eval, Array.getD_eq_getD_getElem?, List.getElem?_toArray, List.getElem?_cons_succ, List.getElem?_cons_zero, Option.getD_some, List.setIfInBounds_toArray, List.set_cons_zero, List.set_cons_succ]
  refine wpList_plain rfl fun K hK => ?_; go_simp
  with_reducible refine (H3 S g w15 lg15).out.mono ?_
  rintro e1 w16 ⟨rfl, V16⟩
  refine hK _ _ ?_; clear hK
  (try simp only [Act.put, List.setIfInBounds_toArray, List.set_cons_zero, List.set_cons_succ])
  refine wpList_yield rfl _ (exec_move _ rfl) ?_
  simp only [Act.put, Act.eval, Array.getD_eq_getD_getElem?, List.getElem?_toArray, List.getElem?_cons_succ, List.getElem?_cons_zero, Option.getD_some, List.setIfInBounds_toArray, List.set_cons_zero, List.set_cons_succ]
  refine wpList_yield rfl ?vp13_3 ?yp13_3 ?_
  case yp13_3 => go_simp; try with_reducible rfl
  simp only [Act.put, List.setIfInBounds_toArray, List.set_cons_zero, List.set_cons_succ]
  refine wpList_yield rfl ?vp14_4 ?yp14_4 ?_
  case yp14_4 => go_simp; try with_reducible rfl
  simp only [Act.put, List.setIfInBounds_toArray, List.set_cons_zero, List.set_cons_succ]
  refine wpList_plain rfl fun K hK => ?_; go_simp
  refine hK _ _ ?_; clear hK
  (try simp only [Act.put, List.setIfInBounds_toArray, List.set_cons_zero, List.set_cons_succ])
  refine wpList_store_at at25w.i rfl (.tmp 15) (.tmp 77) rfl w16.heap.size 0 25 (bvs (zb 32)) (bvs (zb 32)) rfl rfl (z25 w16).out (by rw [bvs_length]; exact LZ.out) (by rw [bvs_length, zb_length]; omega) (bvs_one _) ?_
  intro w17 zz17 g17 s17
  (try simp only [Act.put, List.setIfInBounds_toArray, List.set_cons_zero, List.set_cons_succ])
  refine wpList_yield rfl _ (exec_assign _ rfl) ?_
  simp only [Act.put, Act.eval, Array.getD_eq_getD_getElem?, List.getElem?_toArray, List.getElem?_cons_succ, List.getElem?_cons_zero, Option.getD_some, List.setIfInBounds_toArray, List.set_cons_zero, List.set_cons_succ]
  refine wpList_nil ?_
  rw [splice_all _ _ (by rw [bvs_length])] at zz17
  have V17 : Below w15.heap.size w15 w17 := (V16.alloc V16.size (.cells (bvs (zb 32)).toArray 25)).grown g17 (by have := V16.size; simp; omega) (by intro k hk; cases hk; exact V16.size)
  have xa17 := xa15.below V17 xa15.lt
  have xb17 := xb15.below V17 xb15.lt
  have lg17 := lg15.below V17
  have xc17 := xc15.below V17 xc15.lt
  have xd17 := xd15.below V17 xd15.lt
  have yr17 := yr15.below V17
  have B17 := bthen B15 V17 B15.size
  clear xa15 xb15 lg15 xc15 xd15 yr15 B15 V17 V16 g17 s17 H3
  generalize w16.heap.size = G15 at *
  clear zz17
  go_upto_region 11 with fail
  refine wp_region_lit ?_
  refine wpList_yield rfl _ (exec_move _ rfl) ?_
  simp only [Act.put, Act.eval, Array.getD_eq_getD_getElem?, List.getElem?_toArray, List.getElem?_cons_succ, List.getElem?_cons_zero, Option.getD_some, List.setIfInBounds_toArray, List.set_cons_zero, List.set_cons_succ]
  refine wpList_yield rfl _ (exec_len132 _ rfl RB 2 rc rfl) ?_
  simp only [Act.put, List.setIfInBounds_toArray, List.set_cons_zero, List.set_cons_succ]
  refine wpList_yield rfl ?vp15_2 ?yp15_2 ?_
  case yp15_2 => go_simp; try with_reducible rfl
  simp only [Act.put, List.setIfInBounds_toArray, List.set_cons_zero, List.set_cons_succ]
  refine wpList_nil ?_
  go_upto_region 13 with fail
  refine wp_region_lit ?_
  refine wpList_yield rfl _ (exec_move _ rfl) ?_
  simp only [Act.put, Act.eval, Array.getD_eq_getD_getElem?, List.getElem?_toArray, List.getElem?_cons_succ, List.getElem?_cons_zero, Option.getD_some, List.setIfInBounds_toArray, List.set_cons_zero, List.set_cons_succ]
  refine wpList_yield rfl _ (exec_load_agg at25w (.tmp 5) rfl G5 25 (bvs h1) rfl xc17 (by rw [bvs_length]; exact L1.out)) ?_
  simp only [Act.put, List.setIfInBounds_toArray, List.set_cons_zero, List.set_cons_succ]
  refine wpList_plain rfl fun K hK => ?_; go_simp
  with_reducible refine (F1 S g w17 lg17).out.mono ?_
  rintro e1 w18 ⟨rfl, V18⟩
  refine hK _ _ ?_; clear hK
  (try simp only [Act.put, List.setIfInBounds_toArray, List.set_cons_zero, List.set_cons_succ])
  refine wpList_yield rfl _ (exec_move _ rfl) ?_
  simp only [Act.put, Act.eval, Array.getD_eq_getD_getElem?, List.getElem?_toArray, List.getElem?_cons_succ, List.getElem?_cons_zero, Option.getD_some, List.setIfInBounds_toArray, List.set_cons_zero, List.set_cons_succ]
  refine wpList_yield rfl ?vp16_4 ?yp16_4 ?_
  case yp16_4 => go_simp; try with_reducible rfl
  simp only [Act.put, List.setIfInBounds_toArray, List.set_cons_zero, List.set_cons_succ]
  refine wpList_yield rfl ?vp17_5 ?yp17_5 ?_
  case yp17_5 => go_simp; try with_reducible rfl
  simp only [Act.put, List.setIfInBounds_toArray, List.set_cons_zero, List.set_cons_succ]
  refine wpList_yield rfl _ (exec_assign _ rfl) ?_
  simp only [Act.put, Act.eval, Array.getD_eq_getD_getElem?, List.getElem?_toArray, List.getElem?_cons_succ, List.getElem?_cons_zero, Option.getD_some, List.setIfInBounds_toArray, List.set_cons_zero, List.set_cons_succ]
  refine wpList_yield rfl _ (exec_assign _ rfl) ?_
  simp only [Act.put, Act.eval, Array.getD_eq_getD_getElem?, List.getElem?_toArray, List.getElem?_cons_succ, List.getElem?_cons_zero, Option.getD_some, List.setIfInBounds_toArray, List.set_cons_zero, List.set_cons_succ]
  refine wpList_nil ?_
  have xa18 := xa17.below V18 xa17.lt
  have xb18 := xb17.below V18 xb17.lt
  have lg18 := lg17.below V18
  have xc18 := xc17.below V18 xc17.lt
  have xd18 := xd17.below V18 xd17.lt
  have yr18 := yr17.below V18
  have B18 := bthen B17 V18 B17.size
  clear xa17 xb17 lg17 xc17 xd17 yr17 B17 V18 F1
  go_upto_region 14 with fail
  refine wp_region_lit ?_
  refine wpList_yield rfl _ (exec_move _ rfl) ?_
  simp only [Act.put, Act.eval, Array.getD_eq_getD_getElem?, List.getElem?_toArray, List.getElem?_cons_succ, List.getElem?_cons_zero, Option.getD_some, List.setIfInBounds_toArray, List.set_cons_zero, List.set_cons_succ]
  refine wpList_yield rfl _ (exec_load_agg at25w (.tmp 1) rfl ga 25 (bvs a) rfl xa18 (by rw [bvs_length]; exact LA.out)) ?_
  simp only [Act.put, List.setIfInBounds_toArray, List.set_cons_zero, List.set_cons_succ]
  refine wpList_plain rfl fun K hK => ?_; go_simp
  with_reducible refine (F2 S g w18 lg18).out.mono ?_
  rintro e1 w19 ⟨rfl, V19⟩
  refine hK _ _ ?_; clear hK
  (try simp only [Act.put, List.setIfInBounds_toArray, List.set_cons_zero, List.set_cons_succ])
  refine wpList_yield rfl _ (exec_move _ rfl) ?_
  simp only [Act.put, Act.eval, Array.getD_eq_getD_getElem?, List.getElem?_toArray, List.getElem?_cons_succ, List.getElem?_cons_zero, Option.getD_some, List.setIfInBounds_toArray, List.set_cons_zero, List.set_cons_succ]
  refine wpList_yield rfl ?vp18_4 ?yp18_4 ?_
  case yp18_4 => go_simp; try with_reducible rfl
  simp only [Act.put, List.setIfInBounds_toArray, List.set_cons_zero, List.set_cons_succ]
  refine wpList_yield rfl ?vp19_5 ?yp19_5 ?_
  case yp19_5 => go_simp; try with_reducible rfl
  simp only [Act.put, List.setIfInBounds_toArray, List.set_cons_zero, List.set_cons_succ]
  refine wpList_yield rfl _ (exec_assign _ rfl) ?_
  simp only [Act.put, Act.eval, Array.getD_eq_getD_getElem?, List.getElem?_toArray, List.getElem?_cons_succ, List.getElem?_cons_zero, Option.getD_some, List.setIfInBounds_toArray, List.set_cons_zero, List.set_cons_succ]
  refine wpList_yield rfl _ (exec_assign _ rfl) ?_
  simp only [Act.put, Act.eval, Array.getD_eq_getD_getElem?, List.getElem?_toArray, List.getElem?_cons_succ, List.getElem?_cons_zero, Option.getD_some, List.setIfInBounds_toArray, List.set_cons_zero, List.set_cons_succ]
  refine wpList_nil ?_
  have xa19 := xa18.below V19 xa18.lt
  have xb19 := xb18.below V19 xb18.lt
  have lg19 := lg18.below V19
  have xc19 := xc18.below V19 xc18.lt
  have xd19 := xd18.below V19 xd18.lt
  have yr19 := yr18.below V19
  have B19 := bthen B18 V19 B18.size
  clear xa18 xb18 lg18 xc18 xd18 yr18 B18 V19 F2
  go_upto_region 15 with fail
  refine wp_region_lit ?_
  refine wpList_yield rfl _ (exec_move _ rfl) ?_
  simp only [Act.put, Act.eval, Array.getD_eq_getD_getElem?, List.getElem?_toArray, List.getElem?_cons_succ, List.getElem?_cons_zero, Option.getD_some, List.setIfInBounds_toArray, List.set_cons_zero, List.set_cons_succ]
  refine wpList_plain rfl fun K hK => ?_; go_simp
  with_reducible refine (H2 S g w19 lg19).out.mono ?_
  rintro e1 w20 ⟨rfl, V20⟩
  refine hK _ _ ?_; clear hK
  (try simp only [Act.put, List.setIfInBounds_toArray, List.set_cons_zero, List.set_cons_succ])
  refine wpList_yield rfl _ (exec_move _ rfl) ?_
  simp only [Act.put, Act.eval, Array.getD_eq_getD_getElem?, List.getElem?_toArray, List.getElem?_cons_succ, List.getElem?_cons_zero, Option.getD_some, List.setIfInBounds_toArray, List.set_cons_zero, List.set_cons_succ]
  refine wpList_yield rfl ?vp20_3 ?yp20_3 ?_
  case yp20_3 => go_simp; try with_reducible rfl
  simp only [Act.put, List.setIfInBounds_toArray, List.set_cons_zero, List.set_cons_succ]
  refine wpList_yield rfl ?vp21_4 ?yp21_4 ?_
  case yp21_4 => go_simp; try with_reducible rfl
  simp only [Act.put, List.setIfInBounds_toArray, List.set_cons_zero, List.set_cons_succ]
  refine wpList_plain rfl fun K hK => ?_; go_simp
  refine hK _ _ ?_; clear hK
  (try simp only [Act.put, List.setIfInBounds_toArray, List.set_cons_zero, List.set_cons_succ])
  refine wpList_store_at at25w.i rfl (.tmp 21) (.tmp 97) rfl w20.heap.size 0 25 (bvs (zb 32)) (bvs h2) rfl rfl (z25 w20).out (by rw [bvs_length]; exact L2.out) (by rw [bvs_length, zb_length]; omega) (bvs_one _) ?_
  intro w21 xe21 g21 s21
  (try simp only [Act.put, List.setIfInBounds_toArray, List.set_cons_zero, List.set_cons_succ])
  refine wpList_yield rfl _ (exec_assign _ rfl) ?_
  simp only [Act.put, Act.eval, Array.getD_eq_getD_getElem?, List.getElem?_toArray, List.getElem?_cons_succ, List.getElem?_cons_zero, Option.getD_some, List.setIfInBounds_toArray, List.set_cons_zero, List.set_cons_succ]
  refine wpList_nil ?_
  rw [splice_all _ _ (by rw [bvs_length, bvs_length, zb_length]; exact L2.out.symm)] at xe21
  have V21 : Below w19.heap.size w19 w21 := (V20.alloc V20.size (.cells (bvs (zb 32)).toArray 25)).grown g21 (by have := V20.size; simp; omega) (by intro k hk; cases hk; exact V20.size)
  have xa21 := xa19.below V21 xa19.lt
  have xb21 := xb19.below V21 xb19.lt
  have lg21 := lg19.below V21
  have xc21 := xc19.below V21 xc19.lt
  have xd21 := xd19.below V21 xd19.lt
  have yr21 := yr19.below V21
  have B21 := bthen B19 V21 B19.size
  clear xa19 xb19 lg19 xc19 xd19 yr19 B19 V21 V20 g21 s21 H2
  generalize w20.heap.size = G21 at *
  go_upto_region 16 with fail
  refine rg_begin (Below w21.heap.size w21) [] [0, 4, 5, 7, 11, 12] [1, 2, 3] 13 mixed (by kernel_rfl) (fun _ _ _ _ e hh => ⟨e.symm.trans hh.1, hh.2⟩) ?_
  simp only [pick, List.map_cons, List.map_nil, List.getD_cons_zero, List.getD_cons_succ]
  have hS : (Below w21.heap.size w21) _ := (Below.refl _ _).drew
  generalize w21.drew = wc at *
  refine rg_take rfl rfl hS (fun W hW => exec_load_agg at25w (.tmp 21) rfl G21 25 (bvs h2) rfl (xe21.below hW xe21.lt) (by rw [bvs_length]; exact L2.out)) ?_
  simp only [Act.put, List.setIfInBounds_toArray, List.set_cons_zero, List.set_cons_succ]
  refine rg_take rfl rfl hS (fun W hW => exec_load_agg at25w (.tmp 1) rfl ga 25 (bvs a) rfl (xa21.below hW xa21.lt) (by rw [bvs_length]; exact LA.out)) ?_
  simp only [Act.put, List.setIfInBounds_toArray, List.set_cons_zero, List.set_cons_succ]
  refine rg_take rfl rfl hS (fun W hW => exec_load_agg at25w (.tmp 2) rfl gb 25 (bvs b) rfl (xb21.below hW xb21.lt) (by rw [bvs_length]; exact LB.out)) ?_
  simp only [Act.put, List.setIfInBounds_toArray, List.set_cons_zero, List.set_cons_succ]
  refine rg_fork [0, 4] (by kernel_rfl) ?_
  simp only [pick, List.map_cons, List.map_nil, List.getD_cons_zero, List.getD_cons_succ]
  refine ⟨⟨rfl, ?_⟩, ⟨rfl, ?_⟩, trivial⟩
  · intro K hK; go_simp
    with_reducible refine (FI _).out.mono ?_
    rintro e1 wc ⟨rfl, hn⟩
    have hS := hS.trans (hn.mono hS.size)
    (try have n2 := n2.below hn)
    (try have n1 := n1.below hn)
    refine hK _ _ (fun _ => hS) ?_; clear hK hn
    refine rg_more [4, 5, 6, 8, 9, 10] 6 (by kernel_rfl) ?_
    simp only [pick, List.map_cons, List.map_nil, List.getD_cons_zero, List.getD_cons_succ]
    refine rg_one rfl rfl ?_; intro K hK
    refine wp_build_dig2 a b LA.out LB.out _ _ rfl rfl rfl ?_
    have n1 : Hl (wc.alloc (.cells (bvs (a ++ b)).toArray 25)) (some ⟨wc.heap.size, 0, none⟩) 2 2 [a, b] := hl_two (Blk.new _ _ _) LA.out LB.out
    have hS := hS.alloc hS.size (.cells (bvs (a ++ b)).toArray 25)
    refine hK _ _ (fun _ => hS) ?_; clear hK
    generalize wc.heap.size = gq at *
    generalize World.alloc wc _ = wc at *
    refine rg_one rfl rfl ?_; intro K hK; go_simp
    with_reducible refine (CK _ _ n1).out.mono ?_
    rintro e1 wc ⟨rfl, hn⟩
    have hS := hS.trans (hn.mono hS.size)
    (try have n2 := n2.below hn)
    (try have n1 := n1.below hn)
    refine hK _ _ (fun _ => hS) ?_; clear hK hn
    refine rg_take (v := ?v23_6) rfl rfl hS ?y23_6 ?_
    case y23_6 => intro W hW; (try subst hW); go_simp; try with_reducible rfl
    simp only [Act.put, List.setIfInBounds_toArray, List.set_cons_zero, List.set_cons_succ]
    refine rg_take rfl rfl hS (fun W hW => exec_load_agg at25w (.tmp 21) rfl G21 25 (bvs h2) rfl (xe21.below hW xe21.lt) (by rw [bvs_length]; exact L2.out)) ?_
    simp only [Act.put, List.setIfInBounds_toArray, List.set_cons_zero, List.set_cons_succ]
    refine rg_take rfl rfl hS (fun W hW => exec_load_agg at25w (.tmp 2) rfl gb 25 (bvs b) rfl (xb21.below hW xb21.lt) (by rw [bvs_length]; exact LB.out)) ?_
    simp only [Act.put, List.setIfInBounds_toArray, List.set_cons_zero, List.set_cons_succ]
    refine rg_take rfl rfl hS (fun W hW => exec_load_agg at25w (.tmp 1) rfl ga 25 (bvs a) rfl (xa21.below hW xa21.lt) (by rw [bvs_length]; exact LA.out)) ?_
    simp only [Act.put, List.setIfInBounds_toArray, List.set_cons_zero, List.set_cons_succ]
    refine rg_fork [7, 11] (by kernel_rfl) ?_
    simp only [pick, List.map_cons, List.map_nil, List.getD_cons_zero, List.getD_cons_succ]
    refine ⟨⟨rfl, ?_⟩, ⟨rfl, ?_⟩, trivial⟩
    · intro K hK; go_simp
      with_reducible refine (FI _).out.mono ?_
      rintro e1 wc ⟨rfl, hn⟩
      have hS := hS.trans (hn.mono hS.size)
      (try have n2 := n2.below hn)
      (try have n1 := n1.below hn)
      refine hK _ _ (fun _ => hS) ?_; clear hK hn
      refine rg_more [11, 12, 13, 14, 15] 0 (by kernel_rfl) ?_
      simp only [pick, List.map_cons, List.map_nil, List.getD_cons_zero, List.getD_cons_succ]
      refine rg_one rfl rfl ?_; intro K hK
      refine wp_build_dig2 b a LB.out LA.out _ _ rfl rfl rfl ?_
      have n2 : Hl (wc.alloc (.cells (bvs (b ++ a)).toArray 25)) (some ⟨wc.heap.size, 0, none⟩) 2 2 [b, a] := hl_two (Blk.new _ _ _) LB.out LA.out
      have hS := hS.alloc hS.size (.cells (bvs (b ++ a)).toArray 25)
      refine hK _ _ (fun _ => hS) ?_; clear hK
      generalize wc.heap.size = gq at *
      generalize World.alloc wc _ = wc at *
      refine rg_one rfl rfl ?_; intro K hK; go_simp
      with_reducible refine (CX _ _ n2).out.mono ?_
      rintro e1 wc ⟨rfl, hn⟩
      have hS := hS.trans (hn.mono hS.size)
      (try have n2 := n2.below hn)
      (try have n1 := n1.below hn)
      refine hK _ _ (fun _ => hS) ?_; clear hK hn
      refine rg_take (v := ?v24_13) rfl rfl hS ?y24_13 ?_
      case y24_13 => intro W hW; (try subst hW); go_simp; try with_reducible rfl
      simp only [Act.put, List.setIfInBounds_toArray, List.set_cons_zero, List.set_cons_succ]
      refine rg_take (v := ?v24_14) rfl rfl hS ?y24_14 ?_
      case y24_14 => intro W hW; (try subst hW); go_simp; try with_reducible rfl
      simp only [Act.put, List.setIfInBounds_toArray, List.set_cons_zero, List.set_cons_succ]
      refine rg_take (v := ?v24_15) rfl rfl hS ?y24_15 ?_
      case y24_15 => intro W hW; (try subst hW); go_simp; try with_reducible rfl
      simp only [Act.put, List.setIfInBounds_toArray, List.set_cons_zero, List.set_cons_succ]
      refine rg_done (by kernel_rfl) ?_
      have VV := hS
      clear hS n1 n2
      generalize wc = w22 at *
      have xa22 := xa21.below VV xa21.lt
      have xb22 := xb21.below VV xb21.lt
      have lg22 := lg21.below VV
      have xc22 := xc21.below VV xc21.lt
      have xd22 := xd21.below VV xd21.lt
      have yr22 := yr21.below VV
      have xe22 := xe21.below VV xe21.lt
      have B22 := bthen B21 VV B21.size
      clear xa21 xb21 lg21 xc21 xd21 yr21 xe21 B21 VV CK CX
      clear xe22
      go_upto_region 17 with fail
      refine wp_region_lit ?_
      refine wpList_yield rfl _ (exec_move _ rfl) ?_
      simp only [Act.put, Act.eval, Array.getD_eq_getD_getElem?, List.getElem?_toArray, List.getElem?_cons_succ, List.getElem?_cons_zero, Option.getD_some, List.setIfInBounds_toArray, List.set_cons_zero, List.set_cons_succ]
      refine wpList_yield rfl _ (exec_move _ rfl) ?_
      simp only [Act.put, Act.eval, Array.getD_eq_getD_getElem?, List.getElem?_toArray, List.getElem?_cons_succ, List.getElem?_cons_zero, Option.getD_some, List.setIfInBounds_toArray, List.set_cons_zero, List.set_cons_succ]
      refine wpList_plain rfl fun K hK => ?_; go_simp
      with_reducible refine (X1 RB rc w22 yr22).out.mono ?_
      rintro e1 w23 ⟨B1, k1, d1, B2, k2, d2, rfl, V23⟩
      refine hK _ _ ?_; clear hK
      (try simp only [Act.put, List.setIfInBounds_toArray, List.set_cons_zero, List.set_cons_succ])
      refine wpList_yield rfl _ (exec_move _ rfl) ?_
      simp only [Act.put, Act.eval, Array.getD_eq_getD_getElem?, List.getElem?_toArray, List.getElem?_cons_succ, List.getElem?_cons_zero, Option.getD_some, List.setIfInBounds_toArray, List.set_cons_zero, List.set_cons_succ]
      refine wpList_yield rfl ?vp29_4 ?yp29_4 ?_
      case yp29_4 => go_simp; try with_reducible rfl
      simp only [Act.put, List.setIfInBounds_toArray, List.set_cons_zero, List.set_cons_succ]
      refine wpList_yield rfl ?vp30_5 ?yp30_5 ?_
      case yp30_5 => go_simp; try with_reducible rfl
      simp only [Act.put, List.setIfInBounds_toArray, List.set_cons_zero, List.set_cons_succ]
      refine wpList_plain rfl fun K hK => ?_; go_simp
      refine hK _ _ ?_; clear hK
      (try simp only [Act.put, List.setIfInBounds_toArray, List.set_cons_zero, List.set_cons_succ])
      refine wpList_store_at at124.i rfl (.tmp 24) (.tmp 118) rfl w23.heap.size 0 124 [.slice none 0 0, .slice none 0 0] [.slice B1 k1 d1, .slice B2 k2 d2] rfl rfl (z124 w23).out rfl (Nat.le_refl 2) (by simp [Value.oneCell']) ?_
      intro w24 b24 g24 s24
      (try simp only [Act.put, List.setIfInBounds_toArray, List.set_cons_zero, List.set_cons_succ])
      refine wpList_yield rfl _ (exec_assign _ rfl) ?_
      simp only [Act.put, Act.eval, Array.getD_eq_getD_getElem?, List.getElem?_toArray, List.getElem?_cons_succ, List.getElem?_cons_zero, Option.getD_some, List.setIfInBounds_toArray, List.set_cons_zero, List.set_cons_succ]
      refine wpList_nil ?_
      have V24 : Below w22.heap.size w22 w24 := (V23.alloc V23.size (.cells #[.slice none 0 0, .slice none 0 0] 124)).grown g24 (by have := V23.size; simp; omega) (by intro k hk; cases hk; exact V23.size)
      have xa24 := xa22.below V24 xa22.lt
      have xb24 := xb22.below V24 xb22.lt
      have lg24 := lg22.below V24
      have xc24 := xc22.below V24 xc22.lt
      have xd24 := xd22.below V24 xd22.lt
      have yr24 := yr22.below V24
      have B24 := bthen B22 V24 B22.size
      clear xa22 xb22 lg22 xc22 xd22 yr22 B22 V24 V23 g24 s24 b24 X1
      generalize w23.heap.size = G24 at *
      have hrc := yr24.cap
      go_upto_region 18 with fail
      refine wp_region_lit ?_
      refine wpList_yield rfl _ (exec_move _ rfl) ?_
      simp only [Act.put, Act.eval, Array.getD_eq_getD_getElem?, List.getElem?_toArray, List.getElem?_cons_succ, List.getElem?_cons_zero, Option.getD_some, List.setIfInBounds_toArray, List.set_cons_zero, List.set_cons_succ]
      refine wpList_yield rfl _ (exec_move _ rfl) ?_
      simp only [Act.put, Act.eval, Array.getD_eq_getD_getElem?, List.getElem?_toArray, List.getElem?_cons_succ, List.getElem?_cons_zero, Option.getD_some, List.setIfInBounds_toArray, List.set_cons_zero, List.set_cons_succ]
      refine wpList_yield rfl _ (exec_slice_to st132 _ _ rfl RB 2 rc 1 .i64 rfl rfl (by omega)) ?_
      simp only [Act.put, List.setIfInBounds_toArray, List.set_cons_zero, List.set_cons_succ]
      refine wpList_plain rfl fun K hK => ?_; go_simp
      with_reducible refine (X2 RB rc w24 yr24).out.mono ?_
      rintro e1 w25 ⟨B1, k1, d1, B2, k2, d2, rfl, V25⟩
      refine hK _ _ ?_; clear hK
      (try simp only [Act.put, List.setIfInBounds_toArray, List.set_cons_zero, List.set_cons_succ])
      refine wpList_yield rfl _ (exec_move _ rfl) ?_
      simp only [Act.put, Act.eval, Array.getD_eq_getD_getElem?, List.getElem?_toArray, List.getElem?_cons_succ, List.getElem?_cons_zero, Option.getD_some, List.setIfInBounds_toArray, List.set_cons_zero, List.set_cons_succ]
      refine wpList_yield rfl ?vp31_5 ?yp31_5 ?_
      case yp31_5 => go_simp; try with_reducible rfl
      simp only [Act.put, List.setIfInBounds_toArray, List.set_cons_zero, List.set_cons_succ]
      refine wpList_yield rfl ?vp32_6 ?yp32_6 ?_
      case yp32_6 => go_simp; try with_reducible rfl
      simp only [Act.put, List.setIfInBounds_toArray, List.set_cons_zero, List.set_cons_succ]
      refine wpList_plain rfl fun K hK => ?_; go_simp
      refine hK _ _ ?_; clear hK
      (try simp only [Act.put, List.setIfInBounds_toArray, List.set_cons_zero, List.set_cons_succ])
      refine wpList_store_at at124.i rfl (.tmp 26) (.tmp 125) rfl w25.heap.size 0 124 [.slice none 0 0, .slice none 0 0] [.slice B1 k1 d1, .slice B2 k2 d2] rfl rfl (z124 w25).out rfl (Nat.le_refl 2) (by simp [Value.oneCell']) ?_
      intro w26 b26 g26 s26
      (try simp only [Act.put, List.setIfInBounds_toArray, List.set_cons_zero, List.set_cons_succ])
      refine wpList_yield rfl _ (exec_assign _ rfl) ?_
      simp only [Act.put, Act.eval, Array.getD_eq_getD_getElem?, List.getElem?_toArray, List.getElem?_cons_succ, List.getElem?_cons_zero, Option.getD_some, List.setIfInBounds_toArray, List.set_cons_zero, List.set_cons_succ]
      refine wpList_nil ?_
      have V26 : Below w24.heap.size w24 w26 := (V25.alloc V25.size (.cells #[.slice none 0 0, .slice none 0 0] 124)).grown g26 (by have := V25.size; simp; omega) (by intro k hk; cases hk; exact V25.size)
      have xa26 := xa24.below V26 xa24.lt
      have xb26 := xb24.below V26 xb24.lt
      have lg26 := lg24.below V26
      have xc26 := xc24.below V26 xc24.lt
      have xd26 := xd24.below V26 xd24.lt
      have yr26 := yr24.below V26
      have B26 := bthen B24 V26 B24.size
      clear xa24 xb24 lg24 xc24 xd24 yr24 B24 V26 V25 g26 s26 b26 X2
      generalize w25.heap.size = G26 at *
      go_upto_region 19 with fail
      refine wp_region_lit ?_
      refine wpList_make_digs rfl _ _ rfl 4096 rfl rfl (by omega) ?_
      intro w27 m27 V27
      rw [HM.out] at m27
      (try simp only [Act.put, List.setIfInBounds_toArray, List.set_cons_zero, List.set_cons_succ])
      refine wpList_plain rfl fun K hK => ?_; go_simp
      with_reducible refine (FU _ _ m27).out.mono ?_
      rintro e1 w28 ⟨gf, Sf, rfl, lgf28, V28⟩
      refine hK _ _ ?_; clear hK
      (try simp only [Act.put, List.setIfInBounds_toArray, List.set_cons_zero, List.set_cons_succ])
      refine wpList_yield rfl _ (exec_move _ rfl) ?_
      simp only [Act.put, Act.eval, Array.getD_eq_getD_getElem?, List.getElem?_toArray, List.getElem?_cons_succ, List.getElem?_cons_zero, Option.getD_some, List.setIfInBounds_toArray, List.set_cons_zero, List.set_cons_succ]
      refine wpList_yield rfl ?vp33_3 ?yp33_3 ?_
      case yp33_3 => go_simp; try with_reducible rfl
      simp only [Act.put, List.setIfInBounds_toArray, List.set_cons_zero, List.set_cons_succ]
      refine wpList_yield rfl ?vp34_4 ?yp34_4 ?_
      case yp34_4 => go_simp; try with_reducible rfl
      simp only [Act.put, List.setIfInBounds_toArray, List.set_cons_zero, List.set_cons_succ]
      refine wpList_yield rfl _ (exec_assign _ rfl) ?_
      simp only [Act.put, Act.eval, Array.getD_eq_getD_getElem?, List.getElem?_toArray, List.getElem?_cons_succ, List.getElem?_cons_zero, Option.getD_some, List.setIfInBounds_toArray, List.set_cons_zero, List.set_cons_succ]
      refine wpList_yield rfl _ (exec_assign _ rfl) ?_
      simp only [Act.put, Act.eval, Array.getD_eq_getD_getElem?, List.getElem?_toArray, List.getElem?_cons_succ, List.getElem?_cons_zero, Option.getD_some, List.setIfInBounds_toArray, List.set_cons_zero, List.set_cons_succ]
      refine wpList_nil ?_
      have V28 := bthen V27 V28 V27.size
      have xa28 := xa26.below V28 xa26.lt
      have xb28 := xb26.below V28 xb26.lt
      have lg28 := lg26.below V28
      have xc28 := xc26.below V28 xc26.lt
      have xd28 := xd26.below V28 xd26.lt
      have yr28 := yr26.below V28
      have B28 := bthen B26 V28 B26.size
      clear xa26 xb26 lg26 xc26 xd26 yr26 B26 V28 V27 m27 FU HM
      go_upto_region 20 with fail
      refine wp_region_lit ?_
      refine wpList_yield rfl _ (exec_move _ rfl) ?_
      simp only [Act.put, Act.eval, Array.getD_eq_getD_getElem?, List.getElem?_toArray, List.getElem?_cons_succ, List.getElem?_cons_zero, Option.getD_some, List.setIfInBounds_toArray, List.set_cons_zero, List.set_cons_succ]
      refine wpList_yield rfl _ (exec_load_agg at25w (.tmp 1) rfl ga 25 (bvs a) rfl xa28 (by rw [bvs_length]; exact LA.out)) ?_
      simp only [Act.put, List.setIfInBounds_toArray, List.set_cons_zero, List.set_cons_succ]
      refine wpList_plain rfl fun K hK => ?_; go_simp
      with_reducible refine (AD Sf gf w28 lgf28).out.mono ?_
      rintro e1 w29 ⟨rfl, V29⟩
      refine hK _ _ ?_; clear hK
      (try simp only [Act.put, List.setIfInBounds_toArray, List.set_cons_zero, List.set_cons_succ])
      refine wpList_yield rfl _ (exec_move _ rfl) ?_
      simp only [Act.put, Act.eval, Array.getD_eq_getD_getElem?, List.getElem?_toArray, List.getElem?_cons_succ, List.getElem?_cons_zero, Option.getD_some, List.setIfInBounds_toArray, List.set_cons_zero, List.set_cons_succ]
      refine wpList_yield rfl ?vp35_4 ?yp35_4 ?_
      case yp35_4 => go_simp; try with_reducible rfl
      simp only [Act.put, List.setIfInBounds_toArray, List.set_cons_zero, List.set_cons_succ]
      refine wpList_yield rfl ?vp36_5 ?yp36_5 ?_
      case yp36_5 => go_simp; try with_reducible rfl
      simp only [Act.put, List.setIfInBounds_toArray, List.set_cons_zero, List.set_cons_succ]
      refine wpList_yield rfl _ (exec_assign _ rfl) ?_
      simp only [Act.put, Act.eval, Array.getD_eq_getD_getElem?, List.getElem?_toArray, List.getElem?_cons_succ, List.getElem?_cons_zero, Option.getD_some, List.setIfInBounds_toArray, List.set_cons_zero, List.set_cons_succ]
      refine wpList_yield rfl _ (exec_assign _ rfl) ?_
      simp only [Act.put, Act.eval, Array.getD_eq_getD_getElem?, List.getElem?_toArray, List.getElem?_cons_succ, List.getElem?_cons_zero, Option.getD_some, List.setIfInBounds_toArray, List.set_cons_zero, List.set_cons_succ]
      refine wpList_nil ?_
      have xa29 := xa28.below V29 xa28.lt
      have xb29 := xb28.below V29 xb28.lt
      have lg29 := lg28.below V29
      have xc29 := xc28.below V29 xc28.lt
      have xd29 := xd28.below V29 xd28.lt
      have yr29 := yr28.below V29
      have lgf29 := lgf28.below V29
      have B29 := bthen B28 V29 B28.size
      clear xa28 xb28 lg28 xc28 xd28 yr28 lgf28 B28 V29 AD
      clear lgf29
      clear lg29
      go_upto_region 21 with fail
      refine wp_region_lit ?_
      refine wpList_plain rfl fun K hK => ?_; go_simp
      refine hK _ _ ?_; clear hK
      (try simp only [Act.put, List.setIfInBounds_toArray, List.set_cons_zero, List.set_cons_succ])
      refine wpList_plain rfl fun K hK => ?_; go_simp
      with_reducible refine (SF _ _ (tx_one 4 (.int .u8 4) rfl w29)).out.mono ?_
      rintro e1 w30 ⟨rfl, V30⟩
      have V30 : Below w29.heap.size w29 w30 := ((Below.refl _ _).alloc (Nat.le_refl _) _).trans (V30.mono (by simp))
      refine hK _ _ ?_; clear hK
      (try simp only [Act.put, List.setIfInBounds_toArray, List.set_cons_zero, List.set_cons_succ])
      refine wpList_plain rfl fun K hK => ?_; go_simp
      refine hK _ _ ?_; clear hK
      (try simp only [Act.put, List.setIfInBounds_toArray, List.set_cons_zero, List.set_cons_succ])
      refine wpList_store_at at25w.i rfl (.tmp 32) (.tmp 139) rfl w30.heap.size 0 25 (bvs (zb 32)) (bvs FH) rfl rfl (z25 w30).out (by rw [bvs_length]; exact LF.out) (by rw [bvs_length, zb_length]; omega) (bvs_one _) ?_
      intro w31 xf31 g31 s31
      (try simp only [Act.put, List.setIfInBounds_toArray, List.set_cons_zero, List.set_cons_succ])
      refine wpList_nil ?_
      rw [splice_all _ _ (by rw [bvs_length, bvs_length, zb_length]; exact LF.out.symm)] at xf31
      have V31 : Below w29.heap.size w29 w31 := (V30.alloc V30.size (.cells (bvs (zb 32)).toArray 25)).grown g31 (by have := V30.size; simp; omega) (by intro k hk; cases hk; exact V30.size)
      have xa31 := xa29.below V31 xa29.lt
      have xb31 := xb29.below V31 xb29.lt
      have xc31 := xc29.below V31 xc29.lt
      have xd31 := xd29.below V31 xd29.lt
      have yr31 := yr29.below V31
      have B31 := bthen B29 V31 B29.size
      clear xa29 xb29 xc29 xd29 yr29 B29 V31 V30 g31 s31 SF
      generalize w30.heap.size = G32 at *
      have hB0 := B31.size
      go_upto_region 22 with fail
      refine rg_begin (Below w31.heap.size w31) [] [0, 5, 7, 9, 10] [1, 0, 2, 3, 4, 6, 8, 5, 7, 9, 10, 11, 12, 13] 0 mixed (by kernel_rfl) (fun _ _ _ _ e hh => ⟨e.symm.trans hh.1, hh.2⟩) ?_
      simp only [pick, List.map_cons, List.map_nil, List.getD_cons_zero, List.getD_cons_succ]
      have hS : (Below w31.heap.size w31) _ := (Below.refl _ _).drew
      refine rg_take rfl rfl hS (fun W hW => exec_load_agg at25w (.tmp 32) rfl G32 25 (bvs FH) rfl (xf31.below hW xf31.lt) (by rw [bvs_length]; exact LF.out)) ?_
      simp only [Act.put, List.setIfInBounds_toArray, List.set_cons_zero, List.set_cons_succ]
      refine rg_one rfl rfl ?_; intro K hK; go_simp
      with_reducible refine (FI _).out.mono ?_
      rintro e1 u0 ⟨rfl, Vu0⟩
      have hS1 : Below w31.heap.size w31 u0 := Below.trans hS (Vu0.mono (Below.size hS))
      refine hK _ _ (fun _ => hS1) ?_; clear hK
      refine rg_take rfl rfl hS1 (fun W hW => exec_eql_same ab25 _ _ rfl FH rfl rfl LF.out) ?_
      simp only [Act.put, List.setIfInBounds_toArray, List.set_cons_zero, List.set_cons_succ]
      refine rg_take (v := ?v37_3) rfl rfl hS1 ?y37_3 ?_
      case y37_3 => intro W hW; (try subst hW); go_simp; try with_reducible rfl
      simp only [Act.put, List.setIfInBounds_toArray, List.set_cons_zero, List.set_cons_succ]
      refine rg_take rfl rfl hS1 (fun W hW => exec_load_agg at25w (.tmp 5) rfl G5 25 (bvs h1) rfl (xc31.below hW xc31.lt) (by rw [bvs_length]; exact L1.out)) ?_
      simp only [Act.put, List.setIfInBounds_toArray, List.set_cons_zero, List.set_cons_succ]
      refine rg_take rfl rfl hS1 (fun W hW => exec_arr_all ia25 _ rfl G32 0 rfl) ?_
      simp only [Act.put, List.setIfInBounds_toArray, List.set_cons_zero, List.set_cons_succ]
      refine rg_take rfl rfl hS1 (fun W hW => exec_arr_all ia25 _ rfl ga 0 rfl) ?_
      simp only [Act.put, List.setIfInBounds_toArray, List.set_cons_zero, List.set_cons_succ]
      refine rg_one rfl rfl ?_; intro K hK; go_simp
      have hS2 : Below w31.heap.size w31 (u0.alloc (.cells #[.int .u8 5] 5)) := hS1.alloc (Below.size hS1) _
      have o5 : OwnB (u0.alloc (.cells #[.int .u8 5] 5)) w31.heap.size 5 (.slice (some ⟨u0.heap.size, 0, none⟩) 1 1) [5] := own_one u0 5 (.int .u8 5) rfl (Below.size hS1)
      refine hK _ _ (fun _ => hS2) ?_; clear hK
      refine rg_one rfl rfl ?_; intro K hK
      refine wp_append_bytes bt (.tmp 145) (.tmp 146) rfl w31.heap.size _ [5] rfl o5 (some ⟨G32, 0, none⟩) 32 32 FH rfl LF.out (Rd.of_blk0 (es := []) (by simpa using xf31.below hS2 xf31.lt)) (by simp) (Below.size hS2) ?_
      intro q7 u7 o7 g7 h7
      have hS3 : Below w31.heap.size w31 u7 := hS2.grown g7 (Below.size hS2) (by intro k hk; exact (OwnB.lt o5 k hk).1)
      refine hK _ _ (fun _ => hS3) ?_; clear hK
      refine rg_one rfl rfl ?_; intro K hK
      refine wp_append_bytes bt (.tmp 147) (.tmp 148) rfl w31.heap.size _ ([5] ++ FH) rfl o7 (some ⟨ga, 0, none⟩) 32 32 a rfl LA.out (Rd.of_blk0 (es := []) (by simpa using xa31.below hS3 xa31.lt)) (by simp; have := LF.out; omega) (Below.size hS3) ?_
      intro q9 u9 o9 g9 h9
      have hS4 : Below w31.heap.size w31 u9 := hS3.grown g9 (Below.size hS3) (by intro k hk; exact (OwnB.lt o7 k hk).1)
      refine hK _ _ (fun _ => hS4) ?_; clear hK
      obtain ⟨A9, c9, rfl, t9a, t9b, t9⟩ := o9.rd
      have hn9 : ([5] ++ FH ++ a).length = 65 := by simp; rw [LF.out, LA.out]
      have t9x := Tx.mk_ rfl t9a t9b t9
      clear t9a t9b t9
      generalize ([5] ++ FH ++ a).length = n9 at *
      rw [show [5] ++ FH ++ a = 5 :: (FH ++ a) from rfl] at t9x
      subst hn9
      refine rg_one rfl rfl ?_; intro K hK; go_simp
      with_reducible refine (S1 _ _ _ _ t9x rfl).out.mono ?_
      rintro e1 u10 ⟨rfl, Vu10⟩
      have hS5 : Below w31.heap.size w31 u10 := Below.trans hS4 (Vu10.mono (Below.size hS4))
      refine hK _ _ (fun _ => hS5) ?_; clear hK
      refine rg_take rfl rfl hS5 (fun W hW => exec_eql_same ab25 _ _ rfl h1 rfl rfl L1.out) ?_
      simp only [Act.put, List.setIfInBounds_toArray, List.set_cons_zero, List.set_cons_succ]
      refine rg_take (v := ?v37_12) rfl rfl hS5 ?y37_12 ?_
      case y37_12 => intro W hW; (try subst hW); go_simp; try with_reducible rfl
      simp only [Act.put, List.setIfInBounds_toArray, List.set_cons_zero, List.set_cons_succ]
      refine rg_take (v := ?v37_13) rfl rfl hS5 ?y37_13 ?_
      case y37_13 => intro W hW; (try subst hW); go_simp; try with_reducible rfl
      simp only [Act.put, List.setIfInBounds_toArray, List.set_cons_zero, List.set_cons_succ]
      refine rg_done (by kernel_rfl) ?_
      have VV := hS5
      clear hS hS1 hS2 hS3 hS4 hS5 Vu0 Vu10 o5 o7 g7 g9 h7 h9
      
      generalize u10 = w32 at *
      have xa32 := xa31.below VV xa31.lt
      have xb32 := xb31.below VV xb31.lt
      have xc32 := xc31.below VV xc31.lt
      have xd32 := xd31.below VV xd31.lt
      have yr32 := yr31.below VV
      have xf32 := xf31.below VV xf31.lt
      have B32 := bthen B31 VV B31.size
      clear xa31 xb31 xc31 xd31 yr31 xf31 B31 VV S1 FI
      go_upto_region 23 with fail
      refine wp_region_lit ?_
      refine wpList_yield rfl _ (exec_move _ rfl) ?_
      simp only [Act.put, Act.eval, Array.getD_eq_getD_getElem?, List.getElem?_toArray, List.getElem?_cons_succ, List.getElem?_cons_zero, Option.getD_some, List.setIfInBounds_toArray, List.set_cons_zero, List.set_cons_succ]
      refine wpList_plain_w rfl fun K hK => ?_; go_simp
      with_reducible refine (AW _).out.mono ?_
      rintro e1 u1 ⟨rfl, V1⟩
      refine hK _ _ ?_; clear hK
      (try simp only [Act.put, List.setIfInBounds_toArray, List.set_cons_zero, List.set_cons_succ])
      refine wpList_yield rfl ?vp38_2 ?yp38_2 ?_
      case yp38_2 => go_simp; try with_reducible rfl
      simp only [Act.put, List.setIfInBounds_toArray, List.set_cons_zero, List.set_cons_succ]
      refine wpList_yield rfl _ (exec_move _ rfl) ?_
      simp only [Act.put, Act.eval, Array.getD_eq_getD_getElem?, List.getElem?_toArray, List.getElem?_cons_succ, List.getElem?_cons_zero, Option.getD_some, List.setIfInBounds_toArray, List.set_cons_zero, List.set_cons_succ]
      refine wpList_yield_w rfl _ (exec_move _ rfl) ?_
      simp only [Act.put, Act.eval, Array.getD_eq_getD_getElem?, List.getElem?_toArray, List.getElem?_cons_succ, List.getElem?_cons_zero, Option.getD_some, List.setIfInBounds_toArray, List.set_cons_zero, List.set_cons_succ]
      refine wpList_yield rfl ?vp39_5 ?yp39_5 ?_
      case yp39_5 => go_simp; try with_reducible rfl
      simp only [Act.put, List.setIfInBounds_toArray, List.set_cons_zero, List.set_cons_succ]
      refine wpList_yield rfl _ (exec_move _ rfl) ?_
      simp only [Act.put, Act.eval, Array.getD_eq_getD_getElem?, List.getElem?_toArray, List.getElem?_cons_succ, List.getElem?_cons_zero, Option.getD_some, List.setIfInBounds_toArray, List.set_cons_zero, List.set_cons_succ]
      refine wpList_yield_w rfl _ (exec_move _ rfl) ?_
      simp only [Act.put, Act.eval, Array.getD_eq_getD_getElem?, List.getElem?_toArray, List.getElem?_cons_succ, List.getElem?_cons_zero, Option.getD_some, List.setIfInBounds_toArray, List.set_cons_zero, List.set_cons_succ]
      refine wpList_yield_w rfl ?vp40_8 ?yp40_8 ?_
      case yp40_8 => go_simp; try with_reducible rfl
      simp only [Act.put, List.setIfInBounds_toArray, List.set_cons_zero, List.set_cons_succ]
      refine wpList_yield rfl ?vp41_9 ?yp41_9 ?_
      case yp41_9 => go_simp; try with_reducible rfl
      simp only [Act.put, List.setIfInBounds_toArray, List.set_cons_zero, List.set_cons_succ]
      refine wpList_yield rfl _ (exec_move _ rfl) ?_
      simp only [Act.put, Act.eval, Array.getD_eq_getD_getElem?, List.getElem?_toArray, List.getElem?_cons_succ, List.getElem?_cons_zero, Option.getD_some, List.setIfInBounds_toArray, List.set_cons_zero, List.set_cons_succ]
      refine wpList_yield_w rfl _ (exec_load_agg at25w (.tmp 7) rfl G7 25 (bvs b) rfl (xd32.below V1 xd32.lt) (by rw [bvs_length]; exact LB.out)) ?_
      simp only [Act.put, List.setIfInBounds_toArray, List.set_cons_zero, List.set_cons_succ]
      refine wpList_yield_w rfl _ (exec_load_agg at25w (.tmp 2) rfl gb 25 (bvs b) rfl (xb32.below V1 xb32.lt) (by rw [bvs_length]; exact LB.out)) ?_
      simp only [Act.put, List.setIfInBounds_toArray, List.set_cons_zero, List.set_cons_succ]
      refine wpList_yield_w rfl _ (exec_eql_same ab25 _ _ rfl b rfl rfl LB.out) ?_
      simp only [Act.put, List.setIfInBounds_toArray, List.set_cons_zero, List.set_cons_succ]
      refine wpList_yield rfl ?vp42_14 ?yp42_14 ?_
      case yp42_14 => go_simp; try with_reducible rfl
      simp only [Act.put, List.setIfInBounds_toArray, List.set_cons_zero, List.set_cons_succ]
      refine wpList_yield rfl _ (exec_move _ rfl) ?_
      simp only [Act.put, Act.eval, Array.getD_eq_getD_getElem?, List.getElem?_toArray, List.getElem?_cons_succ, List.getElem?_cons_zero, Option.getD_some, List.setIfInBounds_toArray, List.set_cons_zero, List.set_cons_succ]
      refine wpList_yield_w rfl _ (exec_move _ rfl) ?_
      simp only [Act.put, Act.eval, Array.getD_eq_getD_getElem?, List.getElem?_toArray, List.getElem?_cons_succ, List.getElem?_cons_zero, Option.getD_some, List.setIfInBounds_toArray, List.set_cons_zero, List.set_cons_succ]
      refine wpList_yield_w rfl ?vp43_17 ?yp43_17 ?_
      case yp43_17 => go_simp; try with_reducible rfl
      simp only [Act.put, List.setIfInBounds_toArray, List.set_cons_zero, List.set_cons_succ]
      refine wpList_yield rfl ?vp44_18 ?yp44_18 ?_
      case yp44_18 => go_simp; try with_reducible rfl
      simp only [Act.put, List.setIfInBounds_toArray, List.set_cons_zero, List.set_cons_succ]
      refine wpList_yield rfl _ (exec_move _ rfl) ?_
      simp only [Act.put, Act.eval, Array.getD_eq_getD_getElem?, List.getElem?_toArray, List.getElem?_cons_succ, List.getElem?_cons_zero, Option.getD_some, List.setIfInBounds_toArray, List.set_cons_zero, List.set_cons_succ]
      refine wpList_yield_w rfl _ (exec_move _ rfl) ?_
      simp only [Act.put, Act.eval, Array.getD_eq_getD_getElem?, List.getElem?_toArray, List.getElem?_cons_succ, List.getElem?_cons_zero, Option.getD_some, List.setIfInBounds_toArray, List.set_cons_zero, List.set_cons_succ]
      refine wpList_yield_w rfl ?vp45_21 ?yp45_21 ?_
      case yp45_21 => go_simp; try with_reducible rfl
      simp only [Act.put, List.setIfInBounds_toArray, List.set_cons_zero, List.set_cons_succ]
      refine wpList_yield rfl ?vp46_22 ?yp46_22 ?_
      case yp46_22 => go_simp; try with_reducible rfl
      simp only [Act.put, List.setIfInBounds_toArray, List.set_cons_zero, List.set_cons_succ]
      refine wpList_yield rfl _ (exec_move _ rfl) ?_
      simp only [Act.put, Act.eval, Array.getD_eq_getD_getElem?, List.getElem?_toArray, List.getElem?_cons_succ, List.getElem?_cons_zero, Option.getD_some, List.setIfInBounds_toArray, List.set_cons_zero, List.set_cons_succ]
      refine wpList_yield_w rfl _ (exec_move _ rfl) ?_
      simp only [Act.put, Act.eval, Array.getD_eq_getD_getElem?, List.getElem?_toArray, List.getElem?_cons_succ, List.getElem?_cons_zero, Option.getD_some, List.setIfInBounds_toArray, List.set_cons_zero, List.set_cons_succ]
      refine wpList_yield_w rfl ?vp47_25 ?yp47_25 ?_
      case yp47_25 => go_simp; try with_reducible rfl
      simp only [Act.put, List.setIfInBounds_toArray, List.set_cons_zero, List.set_cons_succ]
      refine wpList_yield rfl ?vp48_26 ?yp48_26 ?_
      case yp48_26 => go_simp; try with_reducible rfl
      simp only [Act.put, List.setIfInBounds_toArray, List.set_cons_zero, List.set_cons_succ]
      refine wpList_yield rfl _ (exec_move _ rfl) ?_
      simp only [Act.put, Act.eval, Array.getD_eq_getD_getElem?, List.getElem?_toArray, List.getElem?_cons_succ, List.getElem?_cons_zero, Option.getD_some, List.setIfInBounds_toArray, List.set_cons_zero, List.set_cons_succ]
      refine wpList_yield_w rfl _ (exec_move _ rfl) ?_
      simp only [Act.put, Act.eval, Array.getD_eq_getD_getElem?, List.getElem?_toArray, List.getElem?_cons_succ, List.getElem?_cons_zero, Option.getD_some, List.setIfInBounds_toArray, List.set_cons_zero, List.set_cons_succ]
      refine wpList_yield_w rfl _ (exec_load_agg at25w (.tmp 1) rfl ga 25 (bvs a) rfl (xa32.below V1 xa32.lt) (by rw [bvs_length]; exact LA.out)) ?_
      simp only [Act.put, List.setIfInBounds_toArray, List.set_cons_zero, List.set_cons_succ]
      refine wpList_yield_w rfl _ (exec_load_agg at25w (.tmp 2) rfl gb 25 (bvs b) rfl (xb32.below V1 xb32.lt) (by rw [bvs_length]; exact LB.out)) ?_
      simp only [Act.put, List.setIfInBounds_toArray, List.set_cons_zero, List.set_cons_succ]
      refine wpList_plain_w rfl fun K hK => ?_
      refine wp_build_dig2 a b LA.out LB.out _ _ rfl rfl rfl ?_
      have n1 : Hl (u1.alloc (.cells (bvs (a ++ b)).toArray 25)) (some ⟨u1.heap.size, 0, none⟩) 2 2 [a, b] := hl_two (Blk.new _ _ _) LA.out LB.out
      have V2 : Below w32.heap.size w32 (u1.alloc (.cells (bvs (a ++ b)).toArray 25)) := V1.alloc V1.size _
      refine hK _ _ ?_; clear hK
      (try simp only [Act.put, List.setIfInBounds_toArray, List.set_cons_zero, List.set_cons_succ])
      refine wpList_plain_w rfl fun K hK => ?_; go_simp
      with_reducible refine (SM _ _ _ _ (yr32.below V2) n1).out.mono ?_
      rintro e1 u2 ⟨rfl, V3⟩
      refine hK _ _ ?_; clear hK
      (try simp only [Act.put, List.setIfInBounds_toArray, List.set_cons_zero, List.set_cons_succ])
      refine wpList_yield rfl ?vp49_33 ?yp49_33 ?_
      case yp49_33 => go_simp; try with_reducible rfl
      simp only [Act.put, List.setIfInBounds_toArray, List.set_cons_zero, List.set_cons_succ]
      refine wpList_yield rfl _ (exec_move _ rfl) ?_
      simp only [Act.put, Act.eval, Array.getD_eq_getD_getElem?, List.getElem?_toArray, List.getElem?_cons_succ, List.getElem?_cons_zero, Option.getD_some, List.setIfInBounds_toArray, List.set_cons_zero, List.set_cons_succ]
      refine wpList_yield_w rfl _ (exec_move _ rfl) ?_
      simp only [Act.put, Act.eval, Array.getD_eq_getD_getElem?, List.getElem?_toArray, List.getElem?_cons_succ, List.getElem?_cons_zero, Option.getD_some, List.setIfInBounds_toArray, List.set_cons_zero, List.set_cons_succ]
      refine wpList_yield_w rfl ?vp50_36 ?yp50_36 ?_
      case yp50_36 => go_simp; try with_reducible rfl
      simp only [Act.put, List.setIfInBounds_toArray, List.set_cons_zero, List.set_cons_succ]
      refine wpList_yield rfl ?vp51_37 ?yp51_37 ?_
      case yp51_37 => go_simp; try with_reducible rfl
      simp only [Act.put, List.setIfInBounds_toArray, List.set_cons_zero, List.set_cons_succ]
      refine wpList_yield rfl _ (exec_move _ rfl) ?_
      simp only [Act.put, Act.eval, Array.getD_eq_getD_getElem?, List.getElem?_toArray, List.getElem?_cons_succ, List.getElem?_cons_zero, Option.getD_some, List.setIfInBounds_toArray, List.set_cons_zero, List.set_cons_succ]
      refine wpList_yield_w rfl _ (exec_move _ rfl) ?_
      simp only [Act.put, Act.eval, Array.getD_eq_getD_getElem?, List.getElem?_toArray, List.getElem?_cons_succ, List.getElem?_cons_zero, Option.getD_some, List.setIfInBounds_toArray, List.set_cons_zero, List.set_cons_succ]
      refine wpList_yield_w rfl ?vp52_40 ?yp52_40 ?_
      case yp52_40 => go_simp; try with_reducible rfl
      simp only [Act.put, List.setIfInBounds_toArray, List.set_cons_zero, List.set_cons_succ]
      refine wpList_yield rfl ?vp53_41 ?yp53_41 ?_
      case yp53_41 => go_simp; try with_reducible rfl
      simp only [Act.put, List.setIfInBounds_toArray, List.set_cons_zero, List.set_cons_succ]
      refine wpList_yield rfl _ (exec_move _ rfl) ?_
      simp only [Act.put, Act.eval, Array.getD_eq_getD_getElem?, List.getElem?_toArray, List.getElem?_cons_succ, List.getElem?_cons_zero, Option.getD_some, List.setIfInBounds_toArray, List.set_cons_zero, List.set_cons_succ]
      refine wpList_yield_w rfl _ (exec_move _ rfl) ?_
      simp only [Act.put, Act.eval, Array.getD_eq_getD_getElem?, List.getElem?_toArray, List.getElem?_cons_succ, List.getElem?_cons_zero, Option.getD_some, List.setIfInBounds_toArray, List.set_cons_zero, List.set_cons_succ]
      refine wpList_yield_w rfl ?vp54_44 ?yp54_44 ?_
      case yp54_44 => go_simp; try with_reducible rfl
      simp only [Act.put, List.setIfInBounds_toArray, List.set_cons_zero, List.set_cons_succ]
      refine wpList_yield rfl ?vp55_45 ?yp55_45 ?_
      case yp55_45 => go_simp; try with_reducible rfl
      simp only [Act.put, List.setIfInBounds_toArray, List.set_cons_zero, List.set_cons_succ]
      refine wpList_yield rfl _ (exec_move _ rfl) ?_
      simp only [Act.put, Act.eval, Array.getD_eq_getD_getElem?, List.getElem?_toArray, List.getElem?_cons_succ, List.getElem?_cons_zero, Option.getD_some, List.setIfInBounds_toArray, List.set_cons_zero, List.set_cons_succ]
      refine wpList_yield_w rfl _ (exec_move _ rfl) ?_
      simp only [Act.put, Act.eval, Array.getD_eq_getD_getElem?, List.getElem?_toArray, List.getElem?_cons_succ, List.getElem?_cons_zero, Option.getD_some, List.setIfInBounds_toArray, List.set_cons_zero, List.set_cons_succ]
      refine wpList_yield rfl ?vp56_48 ?yp56_48 ?_
      case yp56_48 => go_simp; try with_reducible rfl
      simp only [Act.put, List.setIfInBounds_toArray, List.set_cons_zero, List.set_cons_succ]
      refine wpList_yield rfl _ (exec_move _ rfl) ?_
      simp only [Act.put, Act.eval, Array.getD_eq_getD_getElem?, List.getElem?_toArray, List.getElem?_cons_succ, List.getElem?_cons_zero, Option.getD_some, List.setIfInBounds_toArray, List.set_cons_zero, List.set_cons_succ]
      refine wpList_yield_w rfl _ (exec_move _ rfl) ?_
      simp only [Act.put, Act.eval, Array.getD_eq_getD_getElem?, List.getElem?_toArray, List.getElem?_cons_succ, List.getElem?_cons_zero, Option.getD_some, List.setIfInBounds_toArray, List.set_cons_zero, List.set_cons_succ]
      refine wpList_yield_w rfl ?vp57_51 ?yp57_51 ?_
      case yp57_51 => go_simp; try with_reducible rfl
      simp only [Act.put, List.setIfInBounds_toArray, List.set_cons_zero, List.set_cons_succ]
      refine wpList_yield rfl ?vp58_52 ?yp58_52 ?_
      case yp58_52 => go_simp; try with_reducible rfl
      simp only [Act.put, List.setIfInBounds_toArray, List.set_cons_zero, List.set_cons_succ]
      refine wpList_yield rfl _ (exec_move _ rfl) ?_
      simp only [Act.put, Act.eval, Array.getD_eq_getD_getElem?, List.getElem?_toArray, List.getElem?_cons_succ, List.getElem?_cons_zero, Option.getD_some, List.setIfInBounds_toArray, List.set_cons_zero, List.set_cons_succ]
      refine wpList_yield_w rfl _ (exec_move _ rfl) ?_
      simp only [Act.put, Act.eval, Array.getD_eq_getD_getElem?, List.getElem?_toArray, List.getElem?_cons_succ, List.getElem?_cons_zero, Option.getD_some, List.setIfInBounds_toArray, List.set_cons_zero, List.set_cons_succ]
      refine wpList_yield rfl ?vp59_55 ?yp59_55 ?_
      case yp59_55 => go_simp; try with_reducible rfl
      simp only [Act.put, List.setIfInBounds_toArray, List.set_cons_zero, List.set_cons_succ]
      refine wpList_yield rfl _ (exec_move _ rfl) ?_
      simp only [Act.put, Act.eval, Array.getD_eq_getD_getElem?, List.getElem?_toArray, List.getElem?_cons_succ, List.getElem?_cons_zero, Option.getD_some, List.setIfInBounds_toArray, List.set_cons_zero, List.set_cons_succ]
      refine wpList_yield_w rfl _ (exec_move _ rfl) ?_
      simp only [Act.put, Act.eval, Array.getD_eq_getD_getElem?, List.getElem?_toArray, List.getElem?_cons_succ, List.getElem?_cons_zero, Option.getD_some, List.setIfInBounds_toArray, List.set_cons_zero, List.set_cons_succ]
      refine wpList_yield_w rfl ?vp60_58 ?yp60_58 ?_
      case yp60_58 => go_simp; try with_reducible rfl
      simp only [Act.put, List.setIfInBounds_toArray, List.set_cons_zero, List.set_cons_succ]
      refine wpList_yield rfl ?vp61_59 ?yp61_59 ?_
      case yp61_59 => go_simp; try with_reducible rfl
      simp only [Act.put, List.setIfInBounds_toArray, List.set_cons_zero, List.set_cons_succ]
      refine wpList_yield rfl _ (exec_move _ rfl) ?_
      simp only [Act.put, Act.eval, Array.getD_eq_getD_getElem?, List.getElem?_toArray, List.getElem?_cons_succ, List.getElem?_cons_zero, Option.getD_some, List.setIfInBounds_toArray, List.set_cons_zero, List.set_cons_succ]
      refine wpList_yield_w rfl _ (exec_move _ rfl) ?_
      simp only [Act.put, Act.eval, Array.getD_eq_getD_getElem?, List.getElem?_toArray, List.getElem?_cons_succ, List.getElem?_cons_zero, Option.getD_some, List.setIfInBounds_toArray, List.set_cons_zero, List.set_cons_succ]
      refine wpList_yield_w rfl ?vp62_62 ?yp62_62 ?_
      case yp62_62 => go_simp; try with_reducible rfl
      simp only [Act.put, List.setIfInBounds_toArray, List.set_cons_zero, List.set_cons_succ]
      refine wpList_yield rfl ?vp63_63 ?yp63_63 ?_
      case yp63_63 => go_simp; try with_reducible rfl
      simp only [Act.put, List.setIfInBounds_toArray, List.set_cons_zero, List.set_cons_succ]
      refine wpList_yield rfl _ (exec_move _ rfl) ?_
      simp only [Act.put, Act.eval, Array.getD_eq_getD_getElem?, List.getElem?_toArray, List.getElem?_cons_succ, List.getElem?_cons_zero, Option.getD_some, List.setIfInBounds_toArray, List.set_cons_zero, List.set_cons_succ]
      refine wpList_yield_w rfl _ (exec_move _ rfl) ?_
      simp only [Act.put, Act.eval, Array.getD_eq_getD_getElem?, List.getElem?_toArray, List.getElem?_cons_succ, List.getElem?_cons_zero, Option.getD_some, List.setIfInBounds_toArray, List.set_cons_zero, List.set_cons_succ]
      refine wpList_yield_w rfl ?vp64_66 ?yp64_66 ?_
      case yp64_66 => go_simp; try with_reducible rfl
      simp only [Act.put, List.setIfInBounds_toArray, List.set_cons_zero, List.set_cons_succ]
      refine wpList_yield rfl ?vp65_67 ?yp65_67 ?_
      case yp65_67 => go_simp; try with_reducible rfl
      simp only [Act.put, List.setIfInBounds_toArray, List.set_cons_zero, List.set_cons_succ]
      refine wpList_yield rfl _ (exec_move _ rfl) ?_
      simp only [Act.put, Act.eval, Array.getD_eq_getD_getElem?, List.getElem?_toArray, List.getElem?_cons_succ, List.getElem?_cons_zero, Option.getD_some, List.setIfInBounds_toArray, List.set_cons_zero, List.set_cons_succ]
      refine wpList_yield_w rfl _ (exec_move _ rfl) ?_
      simp only [Act.put, Act.eval, Array.getD_eq_getD_getElem?, List.getElem?_toArray, List.getElem?_cons_succ, List.getElem?_cons_zero, Option.getD_some, List.setIfInBounds_toArray, List.set_cons_zero, List.set_cons_succ]
      refine wpList_yield_w rfl ?vp66_70 ?yp66_70 ?_
      case yp66_70 => go_simp; try with_reducible rfl
      simp only [Act.put, List.setIfInBounds_toArray, List.set_cons_zero, List.set_cons_succ]
      refine wpList_yield rfl ?vp67_71 ?yp67_71 ?_
      case yp67_71 => go_simp; try with_reducible rfl
      simp only [Act.put, List.setIfInBounds_toArray, List.set_cons_zero, List.set_cons_succ]
      refine wpList_yield rfl _ (exec_assign _ rfl) ?_
      simp only [Act.put, Act.eval, Array.getD_eq_getD_getElem?, List.getElem?_toArray, List.getElem?_cons_succ, List.getElem?_cons_zero, Option.getD_some, List.setIfInBounds_toArray, List.set_cons_zero, List.set_cons_succ]
      refine wpList_nil ?_
      go_wp2_with fail
      go_ret
      exact ⟨rfl, bthen B32 (bthen V2 V3 V2.size) B32.size⟩
    · intro K hK
      refine wp_build_dig2 b a LB.out LA.out _ _ rfl rfl rfl ?_
      have n2 : Hl (wc.alloc (.cells (bvs (b ++ a)).toArray 25)) (some ⟨wc.heap.size, 0, none⟩) 2 2 [b, a] := hl_two (Blk.new _ _ _) LB.out LA.out
      have hS := hS.alloc hS.size (.cells (bvs (b ++ a)).toArray 25)
      refine hK _ _ (fun _ => hS) ?_; clear hK
      generalize wc.heap.size = gq at *
      generalize World.alloc wc _ = wc at *
      refine rg_more [7, 12, 13, 14, 15] 0 (by kernel_rfl) ?_
      simp only [pick, List.map_cons, List.map_nil, List.getD_cons_zero, List.getD_cons_succ]
      refine rg_one rfl rfl ?_; intro K hK; go_simp
      with_reducible refine (FI _).out.mono ?_
      rintro e1 wc ⟨rfl, hn⟩
      have hS := hS.trans (hn.mono hS.size)
      (try have n2 := n2.below hn)
      (try have n1 := n1.below hn)
      refine hK _ _ (fun _ => hS) ?_; clear hK hn
      refine rg_one rfl rfl ?_; intro K hK; go_simp
      with_reducible refine (CX _ _ n2).out.mono ?_
      rintro e1 wc ⟨rfl, hn⟩
      have hS := hS.trans (hn.mono hS.size)
      (try have n2 := n2.below hn)
      (try have n1 := n1.below hn)
      refine hK _ _ (fun _ => hS) ?_; clear hK hn
      refine rg_take (v := ?v25_13) rfl rfl hS ?y25_13 ?_
      case y25_13 => intro W hW; (try subst hW); go_simp; try with_reducible rfl
      simp only [Act.put, List.setIfInBounds_toArray, List.set_cons_zero, List.set_cons_succ]
      refine rg_take (v := ?v25_14) rfl rfl hS ?y25_14 ?_
      case y25_14 => intro W hW; (try subst hW); go_simp; try with_reducible rfl
      simp only [Act.put, List.setIfInBounds_toArray, List.set_cons_zero, List.set_cons_succ]
      refine rg_take (v := ?v25_15) rfl rfl hS ?y25_15 ?_
      case y25_15 => intro W hW; (try subst hW); go_simp; try with_reducible rfl
      simp only [Act.put, List.setIfInBounds_toArray, List.set_cons_zero, List.set_cons_succ]
      refine rg_done (by kernel_rfl) ?_
      have VV := hS
      clear hS n1 n2
      generalize wc = w22 at *
      have xa22 := xa21.below VV xa21.lt
      have xb22 := xb21.below VV xb21.lt
      have lg22 := lg21.below VV
      have xc22 := xc21.below VV xc21.lt
      have xd22 := xd21.below VV xd21.lt
      have yr22 := yr21.below VV
      have xe22 := xe21.below VV xe21.lt
      have B22 := bthen B21 VV B21.size
      clear xa21 xb21 lg21 xc21 xd21 yr21 xe21 B21 VV CK CX
      clear xe22
      go_upto_region 17 with fail
      refine wp_region_lit ?_
      refine wpList_yield rfl _ (exec_move _ rfl) ?_
      simp only [Act.put, Act.eval, Array.getD_eq_getD_getElem?, List.getElem?_toArray, List.getElem?_cons_succ, List.getElem?_cons_zero, Option.getD_some, List.setIfInBounds_toArray, List.set_cons_zero, List.set_cons_succ]
      refine wpList_yield rfl _ (exec_move _ rfl) ?_
      simp only [Act.put, Act.eval, Array.getD_eq_getD_getElem?, List.getElem?_toArray, List.getElem?_cons_succ, List.getElem?_cons_zero, Option.getD_some, List.setIfInBounds_toArray, List.set_cons_zero, List.set_cons_succ]
      refine wpList_plain rfl fun K hK => ?_; go_simp
      with_reducible refine (X1 RB rc w22 yr22).out.mono ?_
      rintro e1 w23 ⟨B1, k1, d1, B2, k2, d2, rfl, V23⟩
      refine hK _ _ ?_; clear hK
      (try simp only [Act.put, List.setIfInBounds_toArray, List.set_cons_zero, List.set_cons_succ])
      refine wpList_yield rfl _ (exec_move _ rfl) ?_
      simp only [Act.put, Act.eval, Array.getD_eq_getD_getElem?, List.getElem?_toArray, List.getElem?_cons_succ, List.getElem?_cons_zero, Option.getD_some, List.setIfInBounds_toArray, List.set_cons_zero, List.set_cons_succ]
      refine wpList_yield rfl ?vp68_4 ?yp68_4 ?_
      case yp68_4 => go_simp; try with_reducible rfl
      simp only [Act.put, List.setIfInBounds_toArray, List.set_cons_zero, List.set_cons_succ]
      refine wpList_yield rfl ?vp69_5 ?yp69_5 ?_
      case yp69_5 => go_simp; try with_reducible rfl
      simp only [Act.put, List.setIfInBounds_toArray, List.set_cons_zero, List.set_cons_succ]
      refine wpList_plain rfl fun K hK => ?_; go_simp
      refine hK _ _ ?_; clear hK
      (try simp only [Act.put, List.setIfInBounds_toArray, List.set_cons_zero, List.set_cons_succ])
      refine wpList_store_at at124.i rfl (.tmp 24) (.tmp 118) rfl w23.heap.size 0 124 [.slice none 0 0, .slice none 0 0] [.slice B1 k1 d1, .slice B2 k2 d2] rfl rfl (z124 w23).out rfl (Nat.le_refl 2) (by simp [Value.oneCell']) ?_
      intro w24 b24 g24 s24
      (try simp only [Act.put, List.setIfInBounds_toArray, List.set_cons_zero, List.set_cons_succ])
      refine wpList_yield rfl _ (exec_assign _ rfl) ?_
      simp only [Act.put, Act.eval, Array.getD_eq_getD_getElem?, List.getElem?_toArray, List.getElem?_cons_succ, List.getElem?_cons_zero, Option.getD_some, List.setIfInBounds_toArray, List.set_cons_zero, List.set_cons_succ]
      refine wpList_nil ?_
      have V24 : Below w22.heap.size w22 w24 := (V23.alloc V23.size (.cells #[.slice none 0 0, .slice none 0 0] 124)).grown g24 (by have := V23.size; simp; omega) (by intro k hk; cases hk; exact V23.size)
      have xa24 := xa22.below V24 xa22.lt
      have xb24 := xb22.below V24 xb22.lt
      have lg24 := lg22.below V24
      have xc24 := xc22.below V24 xc22.lt
      have xd24 := xd22.below V24 xd22.lt
      have yr24 := yr22.below V24
      have B24 := bthen B22 V24 B22.size
      clear xa22 xb22 lg22 xc22 xd22 yr22 B22 V24 V23 g24 s24 b24 X1
      generalize w23.heap.size = G24 at *
      have hrc := yr24.cap
      go_upto_region 18 with fail
      refine wp_region_lit ?_
      refine wpList_yield rfl _ (exec_move _ rfl) ?_
      simp only [Act.put, Act.eval, Array.getD_eq_getD_getElem?, List.getElem?_toArray, List.getElem?_cons_succ, List.getElem?_cons_zero, Option.getD_some, List.setIfInBounds_toArray, List.set_cons_zero, List.set_cons_succ]
      refine wpList_yield rfl _ (exec_move _ rfl) ?_
      simp only [Act.put, Act.eval, Array.getD_eq_getD_getElem?, List.getElem?_toArray, List.getElem?_cons_succ, List.getElem?_cons_zero, Option.getD_some, List.setIfInBounds_toArray, List.set_cons_zero, List.set_cons_succ]
      refine wpList_yield rfl _ (exec_slice_to st132 _ _ rfl RB 2 rc 1 .i64 rfl rfl (by omega)) ?_
      simp only [Act.put, List.setIfInBounds_toArray, List.set_cons_zero, List.set_cons_succ]
      refine wpList_plain rfl fun K hK => ?_; go_simp
      with_reducible refine (X2 RB rc w24 yr24).out.mono ?_
      rintro e1 w25 ⟨B1, k1, d1, B2, k2, d2, rfl, V25⟩
      refine hK _ _ ?_; clear hK
      (try simp only [Act.put, List.setIfInBounds_toArray, List.set_cons_zero, List.set_cons_succ])
      refine wpList_yield rfl _ (exec_move _ rfl) ?_
      simp only [Act.put, Act.eval, Array.getD_eq_getD_getElem?, List.getElem?_toArray, List.getElem?_cons_succ, List.getElem?_cons_zero, Option.getD_some, List.setIfInBounds_toArray, List.set_cons_zero, List.set_cons_succ]
      refine wpList_yield rfl ?vp70_5 ?yp70_5 ?_
      case yp70_5 => go_simp; try with_reducible rfl
      simp only [Act.put, List.setIfInBounds_toArray, List.set_cons_zero, List.set_cons_succ]
      refine wpList_yield rfl ?vp71_6 ?yp71_6 ?_
      case yp71_6 => go_simp; try with_reducible rfl
      simp only [Act.put, List.setIfInBounds_toArray, List.set_cons_zero, List.set_cons_succ]
      refine wpList_plain rfl fun K hK => ?_; go_simp
      refine hK _ _ ?_; clear hK
      (try simp only [Act.put, List.setIfInBounds_toArray, List.set_cons_zero, List.set_cons_succ])
      refine wpList_store_at at124.i rfl (.tmp 26) (.tmp 125) rfl w25.heap.size 0 124 [.slice none 0 0, .slice none 0 0] [.slice B1 k1 d1, .slice B2 k2 d2] rfl rfl (z124 w25).out rfl (Nat.le_refl 2) (by simp [Value.oneCell']) ?_
      intro w26 b26 g26 s26
      (try simp only [Act.put, List.setIfInBounds_toArray, List.set_cons_zero, List.set_cons_succ])
      refine wpList_yield rfl _ (exec_assign _ rfl) ?_
      simp only [Act.put, Act.eval, Array.getD_eq_getD_getElem?, List.getElem?_toArray, List.getElem?_cons_succ, List.getElem?_cons_zero, Option.getD_some, List.setIfInBounds_toArray, List.set_cons_zero, List.set_cons_succ]
      refine wpList_nil ?_
      have V26 : Below w24.heap.size w24 w26 := (V25.alloc V25.size (.cells #[.slice none 0 0, .slice none 0 0] 124)).grown g26 (by have := V25.size; simp; omega) (by intro k hk; cases hk; exact V25.size)
      have xa26 := xa24.below V26 xa24.lt
      have xb26 := xb24.below V26 xb24.lt
      have lg26 := lg24.below V26
      have xc26 := xc24.below V26 xc24.lt
      have xd26 := xd24.below V26 xd24.lt
      have yr26 := yr24.below V26
      have B26 := bthen B24 V26 B24.size
      clear xa24 xb24 lg24 xc24 xd24 yr24 B24 V26 V25 g26 s26 b26 X2
      generalize w25.heap.size = G26 at *
      go_upto_region 19 with fail
      refine wp_region_lit ?_
      refine wpList_make_digs rfl _ _ rfl 4096 rfl rfl (by omega) ?_
      intro w27 m27 V27
      rw [HM.out] at m27
      (try simp only [Act.put, List.setIfInBounds_toArray, List.set_cons_zero, List.set_cons_succ])
      refine wpList_plain rfl fun K hK => ?_; go_simp
      with_reducible refine (FU _ _ m27).out.mono ?_
      rintro e1 w28 ⟨gf, Sf, rfl, lgf28, V28⟩
      refine hK _ _ ?_; clear hK
      (try simp only [Act.put, List.setIfInBounds_toArray, List.set_cons_zero, List.set_cons_succ])
      refine wpList_yield rfl _ (exec_move _ rfl) ?_
      simp only [Act.put, Act.eval, Array.getD_eq_getD_getElem?, List.getElem?_toArray, List.getElem?_cons_succ, List.getElem?_cons_zero, Option.getD_some, List.setIfInBounds_toArray, List.set_cons_zero, List.set_cons_succ]
      refine wpList_yield rfl ?vp72_3 ?yp72_3 ?_
      case yp72_3 => go_simp; try with_reducible rfl
      simp only [Act.put, List.setIfInBounds_toArray, List.set_cons_zero, List.set_cons_succ]
      refine wpList_yield rfl ?vp73_4 ?yp73_4 ?_
      case yp73_4 => go_simp; try with_reducible rfl
      simp only [Act.put, List.setIfInBounds_toArray, List.set_cons_zero, List.set_cons_succ]
      refine wpList_yield rfl _ (exec_assign _ rfl) ?_
      simp only [Act.put, Act.eval, Array.getD_eq_getD_getElem?, List.getElem?_toArray, List.getElem?_cons_succ, List.getElem?_cons_zero, Option.getD_some, List.setIfInBounds_toArray, List.set_cons_zero, List.set_cons_succ]
      refine wpList_yield rfl _ (exec_assign _ rfl) ?_
      simp only [Act.put, Act.eval, Array.getD_eq_getD_getElem?, List.getElem?_toArray, List.getElem?_cons_succ, List.getElem?_cons_zero, Option.getD_some, List.setIfInBounds_toArray, List.set_cons_zero, List.set_cons_succ]
      refine wpList_nil ?_
      have V28 := bthen V27 V28 V27.size
      have xa28 := xa26.below V28 xa26.lt
      have xb28 := xb26.below V28 xb26.lt
      have lg28 := lg26.below V28
      have xc28 := xc26.below V28 xc26.lt
      have xd28 := xd26.below V28 xd26.lt
      have yr28 := yr26.below V28
      have B28 := bthen B26 V28 B26.size
      clear xa26 xb26 lg26 xc26 xd26 yr26 B26 V28 V27 m27 FU HM
      go_upto_region 20 with fail
      refine wp_region_lit ?_
      refine wpList_yield rfl _ (exec_move _ rfl) ?_
      simp only [Act.put, Act.eval, Array.getD_eq_getD_getElem?, List.getElem?_toArray, List.getElem?_cons_succ, List.getElem?_cons_zero, Option.getD_some, List.setIfInBounds_toArray, List.set_cons_zero, List.set_cons_succ]
      refine wpList_yield rfl _ (exec_load_agg at25w (.tmp 1) rfl ga 25 (bvs a) rfl xa28 (by rw [bvs_length]; exact LA.out)) ?_
      simp only [Act.put, List.setIfInBounds_toArray, List.set_cons_zero, List.set_cons_succ]
      refine wpList_plain rfl fun K hK => ?_; go_simp
      with_reducible refine (AD Sf gf w28 lgf28).out.mono ?_
      rintro e1 w29 ⟨rfl, V29⟩
      refine hK _ _ ?_; clear hK
      (try simp only [Act.put, List.setIfInBounds_toArray, List.set_cons_zero, List.set_cons_succ])
      refine wpList_yield rfl _ (exec_move _ rfl) ?_
      simp only [Act.put, Act.eval, Array.getD_eq_getD_getElem?, List.getElem?_toArray, List.getElem?_cons_succ, List.getElem?_cons_zero, Option.getD_some, List.setIfInBounds_toArray, List.set_cons_zero, List.set_cons_succ]
      refine wpList_yield rfl ?vp74_4 ?yp74_4 ?_
      case yp74_4 => go_simp; try with_reducible rfl
      simp only [Act.put, List.setIfInBounds_toArray, List.set_cons_zero, List.set_cons_succ]
      refine wpList_yield rfl ?vp75_5 ?yp75_5 ?_
      case yp75_5 => go_simp; try with_reducible rfl
      simp only [Act.put, List.setIfInBounds_toArray, List.set_cons_zero, List.set_cons_succ]
      refine wpList_yield rfl _ (exec_assign _ rfl) ?_
      simp only [Act.put, Act.eval, Array.getD_eq_getD_getElem?, List.getElem?_toArray, List.getElem?_cons_succ, List.getElem?_cons_zero, Option.getD_some, List.setIfInBounds_toArray, List.set_cons_zero, List.set_cons_succ]
      refine wpList_yield rfl _ (exec_assign _ rfl) ?_
      simp only [Act.put, Act.eval, Array.getD_eq_getD_getElem?, List.getElem?_toArray, List.getElem?_cons_succ, List.getElem?_cons_zero, Option.getD_some, List.setIfInBounds_toArray, List.set_cons_zero, List.set_cons_succ]
      refine wpList_nil ?_
      have xa29 := xa28.below V29 xa28.lt
      have xb29 := xb28.below V29 xb28.lt
      have lg29 := lg28.below V29
      have xc29 := xc28.below V29 xc28.lt
      have xd29 := xd28.below V29 xd28.lt
      have yr29 := yr28.below V29
      have lgf29 := lgf28.below V29
      have B29 := bthen B28 V29 B28.size
      clear xa28 xb28 lg28 xc28 xd28 yr28 lgf28 B28 V29 AD
      clear lgf29
      clear lg29
      go_upto_region 21 with fail
      refine wp_region_lit ?_
      refine wpList_plain rfl fun K hK => ?_; go_simp
      refine hK _ _ ?_; clear hK
      (try simp only [Act.put, List.setIfInBounds_toArray, List.set_cons_zero, List.set_cons_succ])
      refine wpList_plain rfl fun K hK => ?_; go_simp
      with_reducible refine (SF _ _ (tx_one 4 (.int .u8 4) rfl w29)).out.mono ?_
      rintro e1 w30 ⟨rfl, V30⟩
      have V30 : Below w29.heap.size w29 w30 := ((Below.refl _ _).alloc (Nat.le_refl _) _).trans (V30.mono (by simp))
      refine hK _ _ ?_; clear hK
      (try simp only [Act.put, List.setIfInBounds_toArray, List.set_cons_zero, List.set_cons_succ])
      refine wpList_plain rfl fun K hK => ?_; go_simp
      refine hK _ _ ?_; clear hK
      (try simp only [Act.put, List.setIfInBounds_toArray, List.set_cons_zero, List.set_cons_succ])
      refine wpList_store_at at25w.i rfl (.tmp 32) (.tmp 139) rfl w30.heap.size 0 25 (bvs (zb 32)) (bvs FH) rfl rfl (z25 w30).out (by rw [bvs_length]; exact LF.out) (by rw [bvs_length, zb_length]; omega) (bvs_one _) ?_
      intro w31 xf31 g31 s31
      (try simp only [Act.put, List.setIfInBounds_toArray, List.set_cons_zero, List.set_cons_succ])
      refine wpList_nil ?_
      rw [splice_all _ _ (by rw [bvs_length, bvs_length, zb_length]; exact LF.out.symm)] at xf31
      have V31 : Below w29.heap.size w29 w31 := (V30.alloc V30.size (.cells (bvs (zb 32)).toArray 25)).grown g31 (by have := V30.size; simp; omega) (by intro k hk; cases hk; exact V30.size)
      have xa31 := xa29.below V31 xa29.lt
      have xb31 := xb29.below V31 xb29.lt
      have xc31 := xc29.below V31 xc29.lt
      have xd31 := xd29.below V31 xd29.lt
      have yr31 := yr29.below V31
      have B31 := bthen B29 V31 B29.size
      clear xa29 xb29 xc29 xd29 yr29 B29 V31 V30 g31 s31 SF
      generalize w30.heap.size = G32 at *
      have hB0 := B31.size
      go_upto_region 22 with fail
      refine rg_begin (Below w31.heap.size w31) [] [0, 5, 7, 9, 10] [1, 0, 2, 3, 4, 6, 8, 5, 7, 9, 10, 11, 12, 13] 0 mixed (by kernel_rfl) (fun _ _ _ _ e hh => ⟨e.symm.trans hh.1, hh.2⟩) ?_
      simp only [pick, List.map_cons, List.map_nil, List.getD_cons_zero, List.getD_cons_succ]
      have hS : (Below w31.heap.size w31) _ := (Below.refl _ _).drew
      refine rg_take rfl rfl hS (fun W hW => exec_load_agg at25w (.tmp 32) rfl G32 25 (bvs FH) rfl (xf31.below hW xf31.lt) (by rw [bvs_length]; exact LF.out)) ?_
      simp only [Act.put, List.setIfInBounds_toArray, List.set_cons_zero, List.set_cons_succ]
      refine rg_one rfl rfl ?_; intro K hK; go_simp
      with_reducible refine (FI _).out.mono ?_
      rintro e1 u0 ⟨rfl, Vu0⟩
      have hS1 : Below w31.heap.size w31 u0 := Below.trans hS (Vu0.mono (Below.size hS))
      refine hK _ _ (fun _ => hS1) ?_; clear hK
      refine rg_take rfl rfl hS1 (fun W hW => exec_eql_same ab25 _ _ rfl FH rfl rfl LF.out) ?_
      simp only [Act.put, List.setIfInBounds_toArray, List.set_cons_zero, List.set_cons_succ]
      refine rg_take (v := ?v76_3) rfl rfl hS1 ?y76_3 ?_
      case y76_3 => intro W hW; (try subst hW); go_simp; try with_reducible rfl
      simp only [Act.put, List.setIfInBounds_toArray, List.set_cons_zero, List.set_cons_succ]
      refine rg_take rfl rfl hS1 (fun W hW => exec_load_agg at25w (.tmp 5) rfl G5 25 (bvs h1) rfl (xc31.below hW xc31.lt) (by rw [bvs_length]; exact L1.out)) ?_
      simp only [Act.put, List.setIfInBounds_toArray, List.set_cons_zero, List.set_cons_succ]
      refine rg_take rfl rfl hS1 (fun W hW => exec_arr_all ia25 _ rfl G32 0 rfl) ?_
      simp only [Act.put, List.setIfInBounds_toArray, List.set_cons_zero, List.set_cons_succ]
      refine rg_take rfl rfl hS1 (fun W hW => exec_arr_all ia25 _ rfl ga 0 rfl) ?_
      simp only [Act.put, List.setIfInBounds_toArray, List.set_cons_zero, List.set_cons_succ]
      refine rg_one rfl rfl ?_; intro K hK; go_simp
      have hS2 : Below w31.heap.size w31 (u0.alloc (.cells #[.int .u8 5] 5)) := hS1.alloc (Below.size hS1) _
      have o5 : OwnB (u0.alloc (.cells #[.int .u8 5] 5)) w31.heap.size 5 (.slice (some ⟨u0.heap.size, 0, none⟩) 1 1) [5] := own_one u0 5 (.int .u8 5) rfl (Below.size hS1)
      refine hK _ _ (fun _ => hS2) ?_; clear hK
      refine rg_one rfl rfl ?_; intro K hK
      refine wp_append_bytes bt (.tmp 145) (.tmp 146) rfl w31.heap.size _ [5] rfl o5 (some ⟨G32, 0, none⟩) 32 32 FH rfl LF.out (Rd.of_blk0 (es := []) (by simpa using xf31.below hS2 xf31.lt)) (by simp) (Below.size hS2) ?_
      intro q7 u7 o7 g7 h7
      have hS3 : Below w31.heap.size w31 u7 := hS2.grown g7 (Below.size hS2) (by intro k hk; exact (OwnB.lt o5 k hk).1)
      refine hK _ _ (fun _ => hS3) ?_; clear hK
      refine rg_one rfl rfl ?_; intro K hK
      refine wp_append_bytes bt (.tmp 147) (.tmp 148) rfl w31.heap.size _ ([5] ++ FH) rfl o7 (some ⟨ga, 0, none⟩) 32 32 a rfl LA.out (Rd.of_blk0 (es := []) (by simpa using xa31.below hS3 xa31.lt)) (by simp; have := LF.out; omega) (Below.size hS3) ?_
      intro q9 u9 o9 g9 h9
      have hS4 : Below w31.heap.size w31 u9 := hS3.grown g9 (Below.size hS3) (by intro k hk; exact (OwnB.lt o7 k hk).1)
      refine hK _ _ (fun _ => hS4) ?_; clear hK
      obtain ⟨A9, c9, rfl, t9a, t9b, t9⟩ := o9.rd
      have hn9 : ([5] ++ FH ++ a).length = 65 := by simp; rw [LF.out, LA.out]
      have t9x := Tx.mk_ rfl t9a t9b t9
      clear t9a t9b t9
      generalize ([5] ++ FH ++ a).length = n9 at *
      rw [show [5] ++ FH ++ a = 5 :: (FH ++ a) from rfl] at t9x
      subst hn9
      refine rg_one rfl rfl ?_; intro K hK; go_simp
      with_reducible refine (S1 _ _ _ _ t9x rfl).out.mono ?_
      rintro e1 u10 ⟨rfl, Vu10⟩
      have hS5 : Below w31.heap.size w31 u10 := Below.trans hS4 (Vu10.mono (Below.size hS4))
      refine hK _ _ (fun _ => hS5) ?_; clear hK
      refine rg_take rfl rfl hS5 (fun W hW => exec_eql_same ab25 _ _ rfl h1 rfl rfl L1.out) ?_
      simp only [Act.put, List.setIfInBounds_toArray, List.set_cons_zero, List.set_cons_succ]
      refine rg_take (v := ?v76_12) rfl rfl hS5 ?y76_12 ?_
      case y76_12 => intro W hW; (try subst hW); go_simp; try with_reducible rfl
      simp only [Act.put, List.setIfInBounds_toArray, List.set_cons_zero, List.set_cons_succ]
      refine rg_take (v := ?v76_13) rfl rfl hS5 ?y76_13 ?_
      case y76_13 => intro W hW; (try subst hW); go_simp; try with_reducible rfl
      simp only [Act.put, List.setIfInBounds_toArray, List.set_cons_zero, List.set_cons_succ]
      refine rg_done (by kernel_rfl) ?_
      have VV := hS5
      clear hS hS1 hS2 hS3 hS4 hS5 Vu0 Vu10 o5 o7 g7 g9 h7 h9
      
      generalize u10 = w32 at *
      have xa32 := xa31.below VV xa31.lt
      have xb32 := xb31.below VV xb31.lt
      have xc32 := xc31.below VV xc31.lt
      have xd32 := xd31.below VV xd31.lt
      have yr32 := yr31.below VV
      have xf32 := xf31.below VV xf31.lt
      have B32 := bthen B31 VV B31.size
      clear xa31 xb31 xc31 xd31 yr31 xf31 B31 VV S1 FI
      go_upto_region 23 with fail
      refine wp_region_lit ?_
      refine wpList_yield rfl _ (exec_move _ rfl) ?_
      simp only [Act.put, Act.eval, Array.getD_eq_getD_getElem?, List.getElem?_toArray, List.getElem?_cons_succ, List.getElem?_cons_zero, Option.getD_some, List.setIfInBounds_toArray, List.set_cons_zero, List.set_cons_succ]
      refine wpList_plain_w rfl fun K hK => ?_; go_simp
      with_reducible refine (AW _).out.mono ?_
      rintro e1 u1 ⟨rfl, V1⟩
      refine hK _ _ ?_; clear hK
      (try simp only [Act.put, List.setIfInBounds_toArray, List.set_cons_zero, List.set_cons_succ])
      refine wpList_yield rfl ?vp77_2 ?yp77_2 ?_
      case yp77_2 => go_simp; try with_reducible rfl
      simp only [Act.put, List.setIfInBounds_toArray, List.set_cons_zero, List.set_cons_succ]
      refine wpList_yield rfl _ (exec_move _ rfl) ?_
      simp only [Act.put, Act.eval, Array.getD_eq_getD_getElem?, List.getElem?_toArray, List.getElem?_cons_succ, List.getElem?_cons_zero, Option.getD_some, List.setIfInBounds_toArray, List.set_cons_zero, List.set_cons_succ]
      refine wpList_yield_w rfl _ (exec_move _ rfl) ?_
      simp only [Act.put, Act.eval, Array.getD_eq_getD_getElem?, List.getElem?_toArray, List.getElem?_cons_succ, List.getElem?_cons_zero, Option.getD_some, List.setIfInBounds_toArray, List.set_cons_zero, List.set_cons_succ]
      refine wpList_yield rfl ?vp78_5 ?yp78_5 ?_
      case yp78_5 => go_simp; try with_reducible rfl
      simp only [Act.put, List.setIfInBounds_toArray, List.set_cons_zero, List.set_cons_succ]
      refine wpList_yield rfl _ (exec_move _ rfl) ?_
      simp only [Act.put, Act.eval, Array.getD_eq_getD_getElem?, List.getElem?_toArray, List.getElem?_cons_succ, List.getElem?_cons_zero, Option.getD_some, List.setIfInBounds_toArray, List.set_cons_zero, List.set_cons_succ]
      refine wpList_yield_w rfl _ (exec_move _ rfl) ?_
      simp only [Act.put, Act.eval, Array.getD_eq_getD_getElem?, List.getElem?_toArray, List.getElem?_cons_succ, List.getElem?_cons_zero, Option.getD_some, List.setIfInBounds_toArray, List.set_cons_zero, List.set_cons_succ]
      refine wpList_yield_w rfl ?vp79_8 ?yp79_8 ?_
      case yp79_8 => go_simp; try with_reducible rfl
      simp only [Act.put, List.setIfInBounds_toArray, List.set_cons_zero, List.set_cons_succ]
      refine wpList_yield rfl ?vp80_9 ?yp80_9 ?_
      case yp80_9 => go_simp; try with_reducible rfl
      simp only [Act.put, List.setIfInBounds_toArray, List.set_cons_zero, List.set_cons_succ]
      refine wpList_yield rfl _ (exec_move _ rfl) ?_
      simp only [Act.put, Act.eval, Array.getD_eq_getD_getElem?, List.getElem?_toArray, List.getElem?_cons_succ, List.getElem?_cons_zero, Option.getD_some, List.setIfInBounds_toArray, List.set_cons_zero, List.set_cons_succ]
      refine wpList_yield_w rfl _ (exec_load_agg at25w (.tmp 7) rfl G7 25 (bvs b) rfl (xd32.below V1 xd32.lt) (by rw [bvs_length]; exact LB.out)) ?_
      simp only [Act.put, List.setIfInBounds_toArray, List.set_cons_zero, List.set_cons_succ]
      refine wpList_yield_w rfl _ (exec_load_agg at25w (.tmp 2) rfl gb 25 (bvs b) rfl (xb32.below V1 xb32.lt) (by rw [bvs_length]; exact LB.out)) ?_
      simp only [Act.put, List.setIfInBounds_toArray, List.set_cons_zero, List.set_cons_succ]
      refine wpList_yield_w rfl _ (exec_eql_same ab25 _ _ rfl b rfl rfl LB.out) ?_
      simp only [Act.put, List.setIfInBounds_toArray, List.set_cons_zero, List.set_cons_succ]
      refine wpList_yield rfl ?vp81_14 ?yp81_14 ?_
      case yp81_14 => go_simp; try with_reducible rfl
      simp only [Act.put, List.setIfInBounds_toArray, List.set_cons_zero, List.set_cons_succ]
      refine wpList_yield rfl _ (exec_move _ rfl) ?_
      simp only [Act.put, Act.eval, Array.getD_eq_getD_getElem?, List.getElem?_toArray, List.getElem?_cons_succ, List.getElem?_cons_zero, Option.getD_some, List.setIfInBounds_toArray, List.set_cons_zero, List.set_cons_succ]
      refine wpList_yield_w rfl _ (exec_move _ rfl) ?_
      simp only [Act.put, Act.eval, Array.getD_eq_getD_getElem?, List.getElem?_toArray, List.getElem?_cons_succ, List.getElem?_cons_zero, Option.getD_some, List.setIfInBounds_toArray, List.set_cons_zero, List.set_cons_succ]
      refine wpList_yield_w rfl ?vp82_17 ?yp82_17 ?_
      case yp82_17 => go_simp; try with_reducible rfl
      simp only [Act.put, List.setIfInBounds_toArray, List.set_cons_zero, List.set_cons_succ]
      refine wpList_yield rfl ?vp83_18 ?yp83_18 ?_
      case yp83_18 => go_simp; try with_reducible rfl
      simp only [Act.put, List.setIfInBounds_toArray, List.set_cons_zero, List.set_cons_succ]
      refine wpList_yield rfl _ (exec_move _ rfl) ?_
      simp only [Act.put, Act.eval, Array.getD_eq_getD_getElem?, List.getElem?_toArray, List.getElem?_cons_succ, List.getElem?_cons_zero, Option.getD_some, List.setIfInBounds_toArray, List.set_cons_zero, List.set_cons_succ]
      refine wpList_yield_w rfl _ (exec_move _ rfl) ?_
      simp only [Act.put, Act.eval, Array.getD_eq_getD_getElem?, List.getElem?_toArray, List.getElem?_cons_succ, List.getElem?_cons_zero, Option.getD_some, List.setIfInBounds_toArray, List.set_cons_zero, List.set_cons_succ]
      refine wpList_yield_w rfl ?vp84_21 ?yp84_21 ?_
      case yp84_21 => go_simp; try with_reducible rfl
      simp only [Act.put, List.setIfInBounds_toArray, List.set_cons_zero, List.set_cons_succ]
      refine wpList_yield rfl ?vp85_22 ?yp85_22 ?_
      case yp85_22 => go_simp; try with_reducible rfl
      simp only [Act.put, List.setIfInBounds_toArray, List.set_cons_zero, List.set_cons_succ]
      refine wpList_yield rfl _ (exec_move _ rfl) ?_
      simp only [Act.put, Act.eval, Array.getD_eq_getD_getElem?, List.getElem?_toArray, List.getElem?_cons_succ, List.getElem?_cons_zero, Option.getD_some, List.setIfInBounds_toArray, List.set_cons_zero, List.set_cons_succ]
      refine wpList_yield_w rfl _ (exec_move _ rfl) ?_
      simp only [Act.put, Act.eval, Array.getD_eq_getD_getElem?, List.getElem?_toArray, List.getElem?_cons_succ, List.getElem?_cons_zero, Option.getD_some, List.setIfInBounds_toArray, List.set_cons_zero, List.set_cons_succ]
      refine wpList_yield_w rfl ?vp86_25 ?yp86_25 ?_
      case yp86_25 => go_simp; try with_reducible rfl
      simp only [Act.put, List.setIfInBounds_toArray, List.set_cons_zero, List.set_cons_succ]
      refine wpList_yield rfl ?vp87_26 ?yp87_26 ?_
      case yp87_26 => go_simp; try with_reducible rfl
      simp only [Act.put, List.setIfInBounds_toArray, List.set_cons_zero, List.set_cons_succ]
      refine wpList_yield rfl _ (exec_move _ rfl) ?_
      simp only [Act.put, Act.eval, Array.getD_eq_getD_getElem?, List.getElem?_toArray, List.getElem?_cons_succ, List.getElem?_cons_zero, Option.getD_some, List.setIfInBounds_toArray, List.set_cons_zero, List.set_cons_succ]
      refine wpList_yield_w rfl _ (exec_move _ rfl) ?_
      simp only [Act.put, Act.eval, Array.getD_eq_getD_getElem?, List.getElem?_toArray, List.getElem?_cons_succ, List.getElem?_cons_zero, Option.getD_some, List.setIfInBounds_toArray, List.set_cons_zero, List.set_cons_succ]
      refine wpList_yield_w rfl _ (exec_load_agg at25w (.tmp 1) rfl ga 25 (bvs a) rfl (xa32.below V1 xa32.lt) (by rw [bvs_length]; exact LA.out)) ?_
      simp only [Act.put, List.setIfInBounds_toArray, List.set_cons_zero, List.set_cons_succ]
      refine wpList_yield_w rfl _ (exec_load_agg at25w (.tmp 2) rfl gb 25 (bvs b) rfl (xb32.below V1 xb32.lt) (by rw [bvs_length]; exact LB.out)) ?_
      simp only [Act.put, List.setIfInBounds_toArray, List.set_cons_zero, List.set_cons_succ]
      refine wpList_plain_w rfl fun K hK => ?_
      refine wp_build_dig2 a b LA.out LB.out _ _ rfl rfl rfl ?_
      have n1 : Hl (u1.alloc (.cells (bvs (a ++ b)).toArray 25)) (some ⟨u1.heap.size, 0, none⟩) 2 2 [a, b] := hl_two (Blk.new _ _ _) LA.out LB.out
      have V2 : Below w32.heap.size w32 (u1.alloc (.cells (bvs (a ++ b)).toArray 25)) := V1.alloc V1.size _
      refine hK _ _ ?_; clear hK
      (try simp only [Act.put, List.setIfInBounds_toArray, List.set_cons_zero, List.set_cons_succ])
      refine wpList_plain_w rfl fun K hK => ?_; go_simp
      with_reducible refine (SM _ _ _ _ (yr32.below V2) n1).out.mono ?_
      rintro e1 u2 ⟨rfl, V3⟩
      refine hK _ _ ?_; clear hK
      (try simp only [Act.put, List.setIfInBounds_toArray, List.set_cons_zero, List.set_cons_succ])
      refine wpList_yield rfl ?vp88_33 ?yp88_33 ?_
      case yp88_33 => go_simp; try with_reducible rfl
      simp only [Act.put, List.setIfInBounds_toArray, List.set_cons_zero, List.set_cons_succ]
      refine wpList_yield rfl _ (exec_move _ rfl) ?_
      simp only [Act.put, Act.eval, Array.getD_eq_getD_getElem?, List.getElem?_toArray, List.getElem?_cons_succ, List.getElem?_cons_zero, Option.getD_some, List.setIfInBounds_toArray, List.set_cons_zero, List.set_cons_succ]
      refine wpList_yield_w rfl _ (exec_move _ rfl) ?_
      simp only [Act.put, Act.eval, Array.getD_eq_getD_getElem?, List.getElem?_toArray, List.getElem?_cons_succ, List.getElem?_cons_zero, Option.getD_some, List.setIfInBounds_toArray, List.set_cons_zero, List.set_cons_succ]
      refine wpList_yield_w rfl ?vp89_36 ?yp89_36 ?_
      case yp89_36 => go_simp; try with_reducible rfl
      simp only [Act.put, List.setIfInBounds_toArray, List.set_cons_zero, List.set_cons_succ]
      refine wpList_yield rfl ?vp90_37 ?yp90_37 ?_
      case yp90_37 => go_simp; try with_reducible rfl
      simp only [Act.put, List.setIfInBounds_toArray, List.set_cons_zero, List.set_cons_succ]
      refine wpList_yield rfl _ (exec_move _ rfl) ?_
      simp only [Act.put, Act.eval, Array.getD_eq_getD_getElem?, List.getElem?_toArray, List.getElem?_cons_succ, List.getElem?_cons_zero, Option.getD_some, List.setIfInBounds_toArray, List.set_cons_zero, List.set_cons_succ]
      refine wpList_yield_w rfl _ (exec_move _ rfl) ?_
      simp only [Act.put, Act.eval, Array.getD_eq_getD_getElem?, List.getElem?_toArray, List.getElem?_cons_succ, List.getElem?_cons_zero, Option.getD_some, List.setIfInBounds_toArray, List.set_cons_zero, List.set_cons_succ]
      refine wpList_yield_w rfl ?vp91_40 ?yp91_40 ?_
      case yp91_40 => go_simp; try with_reducible rfl
      simp only [Act.put, List.setIfInBounds_toArray, List.set_cons_zero, List.set_cons_succ]
      refine wpList_yield rfl ?vp92_41 ?yp92_41 ?_
      case yp92_41 => go_simp; try with_reducible rfl
      simp only [Act.put, List.setIfInBounds_toArray, List.set_cons_zero, List.set_cons_succ]
      refine wpList_yield rfl _ (exec_move _ rfl) ?_
      simp only [Act.put, Act.eval, Array.getD_eq_getD_getElem?, List.getElem?_toArray, List.getElem?_cons_succ, List.getElem?_cons_zero, Option.getD_some, List.setIfInBounds_toArray, List.set_cons_zero, List.set_cons_succ]
      refine wpList_yield_w rfl _ (exec_move _ rfl) ?_
      simp only [Act.put, Act.eval, Array.getD_eq_getD_getElem?, List.getElem?_toArray, List.getElem?_cons_succ, List.getElem?_cons_zero, Option.getD_some, List.setIfInBounds_toArray, List.set_cons_zero, List.set_cons_succ]
      refine wpList_yield_w rfl ?vp93_44 ?yp93_44 ?_
      case yp93_44 => go_simp; try with_reducible rfl
      simp only [Act.put, List.setIfInBounds_toArray, List.set_cons_zero, List.set_cons_succ]
      refine wpList_yield rfl ?vp94_45 ?yp94_45 ?_
      case yp94_45 => go_simp; try with_reducible rfl
      simp only [Act.put, List.setIfInBounds_toArray, List.set_cons_zero, List.set_cons_succ]
      refine wpList_yield rfl _ (exec_move _ rfl) ?_
      simp only [Act.put, Act.eval, Array.getD_eq_getD_getElem?, List.getElem?_toArray, List.getElem?_cons_succ, List.getElem?_cons_zero, Option.getD_some, List.setIfInBounds_toArray, List.set_cons_zero, List.set_cons_succ]
      refine wpList_yield_w rfl _ (exec_move _ rfl) ?_
      simp only [Act.put, Act.eval, Array.getD_eq_getD_getElem?, List.getElem?_toArray, List.getElem?_cons_succ, List.getElem?_cons_zero, Option.getD_some, List.setIfInBounds_toArray, List.set_cons_zero, List.set_cons_succ]
      refine wpList_yield rfl ?vp95_48 ?yp95_48 ?_
      case yp95_48 => go_simp; try with_reducible rfl
      simp only [Act.put, List.setIfInBounds_toArray, List.set_cons_zero, List.set_cons_succ]
      refine wpList_yield rfl _ (exec_move _ rfl) ?_
      simp only [Act.put, Act.eval, Array.getD_eq_getD_getElem?, List.getElem?_toArray, List.getElem?_cons_succ, List.getElem?_cons_zero, Option.getD_some, List.setIfInBounds_toArray, List.set_cons_zero, List.set_cons_succ]
      refine wpList_yield_w rfl _ (exec_move _ rfl) ?_
      simp only [Act.put, Act.eval, Array.getD_eq_getD_getElem?, List.getElem?_toArray, List.getElem?_cons_succ, List.getElem?_cons_zero, Option.getD_some, List.setIfInBounds_toArray, List.set_cons_zero, List.set_cons_succ]
      refine wpList_yield_w rfl ?vp96_51 ?yp96_51 ?_
      case yp96_51 => go_simp; try with_reducible rfl
      simp only [Act.put, List.setIfInBounds_toArray, List.set_cons_zero, List.set_cons_succ]
      refine wpList_yield rfl ?vp97_52 ?yp97_52 ?_
      case yp97_52 => go_simp; try with_reducible rfl
      simp only [Act.put, List.setIfInBounds_toArray, List.set_cons_zero, List.set_cons_succ]
      refine wpList_yield rfl _ (exec_move _ rfl) ?_
      simp only [Act.put, Act.eval, Array.getD_eq_getD_getElem?, List.getElem?_toArray, List.getElem?_cons_succ, List.getElem?_cons_zero, Option.getD_some, List.setIfInBounds_toArray, List.set_cons_zero, List.set_cons_succ]
      refine wpList_yield_w rfl _ (exec_move _ rfl) ?_
      simp only [Act.put, Act.eval, Array.getD_eq_getD_getElem?, List.getElem?_toArray, List.getElem?_cons_succ, List.getElem?_cons_zero, Option.getD_some, List.setIfInBounds_toArray, List.set_cons_zero, List.set_cons_succ]
      refine wpList_yield rfl ?vp98_55 ?yp98_55 ?_
      case yp98_55 => go_simp; try with_reducible rfl
      simp only [Act.put, List.setIfInBounds_toArray, List.set_cons_zero, List.set_cons_succ]
      refine wpList_yield rfl _ (exec_move _ rfl) ?_
      simp only [Act.put, Act.eval, Array.getD_eq_getD_getElem?, List.getElem?_toArray, List.getElem?_cons_succ, List.getElem?_cons_zero, Option.getD_some, List.setIfInBounds_toArray, List.set_cons_zero, List.set_cons_succ]
      refine wpList_yield_w rfl _ (exec_move _ rfl) ?_
      simp only [Act.put, Act.eval, Array.getD_eq_getD_getElem?, List.getElem?_toArray, List.getElem?_cons_succ, List.getElem?_cons_zero, Option.getD_some, List.setIfInBounds_toArray, List.set_cons_zero, List.set_cons_succ]
      refine wpList_yield_w rfl ?vp99_58 ?yp99_58 ?_
      case yp99_58 => go_simp; try with_reducible rfl
      simp only [Act.put, List.setIfInBounds_toArray, List.set_cons_zero, List.set_cons_succ]
      refine wpList_yield rfl ?vp100_59 ?yp100_59 ?_
      case yp100_59 => go_simp; try with_reducible rfl
      simp only [Act.put, List.setIfInBounds_toArray, List.set_cons_zero, List.set_cons_succ]
      refine wpList_yield rfl _ (exec_move _ rfl) ?_
      simp only [Act.put, Act.eval, Array.getD_eq_getD_getElem?, List.getElem?_toArray, List.getElem?_cons_succ, List.getElem?_cons_zero, Option.getD_some, List.setIfInBounds_toArray, List.set_cons_zero, List.set_cons_succ]
      refine wpList_yield_w rfl _ (exec_move _ rfl) ?_
      simp only [Act.put, Act.eval, Array.getD_eq_getD_getElem?, List.getElem?_toArray, List.getElem?_cons_succ, List.getElem?_cons_zero, Option.getD_some, List.setIfInBounds_toArray, List.set_cons_zero, List.set_cons_succ]
      refine wpList_yield_w rfl ?vp101_62 ?yp101_62 ?_
      case yp101_62 => go_simp; try with_reducible rfl
      simp only [Act.put, List.setIfInBounds_toArray, List.set_cons_zero, List.set_cons_succ]
      refine wpList_yield rfl ?vp102_63 ?yp102_63 ?_
      case yp102_63 => go_simp; try with_reducible rfl
      simp only [Act.put, List.setIfInBounds_toArray, List.set_cons_zero, List.set_cons_succ]
      refine wpList_yield rfl _ (exec_move _ rfl) ?_
      simp only [Act.put, Act.eval, Array.getD_eq_getD_getElem?, List.getElem?_toArray, List.getElem?_cons_succ, List.getElem?_cons_zero, Option.getD_some, List.setIfInBounds_toArray, List.set_cons_zero, List.set_cons_succ]
      refine wpList_yield_w rfl _ (exec_move _ rfl) ?_
      simp only [Act.put, Act.eval, Array.getD_eq_getD_getElem?, List.getElem?_toArray, List.getElem?_cons_succ, List.getElem?_cons_zero, Option.getD_some, List.setIfInBounds_toArray, List.set_cons_zero, List.set_cons_succ]
      refine wpList_yield_w rfl ?vp103_66 ?yp103_66 ?_
      case yp103_66 => go_simp; try with_reducible rfl
      simp only [Act.put, List.setIfInBounds_toArray, List.set_cons_zero, List.set_cons_succ]
      refine wpList_yield rfl ?vp104_67 ?yp104_67 ?_
      case yp104_67 => go_simp; try with_reducible rfl
      simp only [Act.put, List.setIfInBounds_toArray, List.set_cons_zero, List.set_cons_succ]
      refine wpList_yield rfl _ (exec_move _ rfl) ?_
      simp only [Act.put, Act.eval, Array.getD_eq_getD_getElem?, List.getElem?_toArray, List.getElem?_cons_succ, List.getElem?_cons_zero, Option.getD_some, List.setIfInBounds_toArray, List.set_cons_zero, List.set_cons_succ]
      refine wpList_yield_w rfl _ (exec_move _ rfl) ?_
      simp only [Act.put, Act.eval, Array.getD_eq_getD_getElem?, List.getElem?_toArray, List.getElem?_cons_succ, List.getElem?_cons_zero, Option.getD_some, List.setIfInBounds_toArray, List.set_cons_zero, List.set_cons_succ]
      refine wpList_yield_w rfl ?vp105_70 ?yp105_70 ?_
      case yp105_70 => go_simp; try with_reducible rfl
      simp only [Act.put, List.setIfInBounds_toArray, List.set_cons_zero, List.set_cons_succ]
      refine wpList_yield rfl ?vp106_71 ?yp106_71 ?_
      case yp106_71 => go_simp; try with_reducible rfl
      simp only [Act.put, List.setIfInBounds_toArray, List.set_cons_zero, List.set_cons_succ]
      refine wpList_yield rfl _ (exec_assign _ rfl) ?_
      simp only [Act.put, Act.eval, Array.getD_eq_getD_getElem?, List.getElem?_toArray, List.getElem?_cons_succ, List.getElem?_cons_zero, Option.getD_some, List.setIfInBounds_toArray, List.set_cons_zero, List.set_cons_succ]
      refine wpList_nil ?_
      go_wp2_with fail
      go_ret
      exact ⟨rfl, bthen B32 (bthen V2 V3 V2.size) B32.size⟩
  · intro K hK
    refine wp_build_dig2 a b LA.out LB.out _ _ rfl rfl rfl ?_
    have n1 : Hl (wc.alloc (.cells (bvs (a ++ b)).toArray 25)) (some ⟨wc.heap.size, 0, none⟩) 2 2 [a, b] := hl_two (Blk.new _ _ _) LA.out LB.out
    have hS := hS.alloc hS.size (.cells (bvs (a ++ b)).toArray 25)
    refine hK _ _ (fun _ => hS) ?_; clear hK
    generalize wc.heap.size = gq at *
    generalize World.alloc wc _ = wc at *
    refine rg_more [0, 5, 6, 8, 9, 10] 6 (by kernel_rfl) ?_
    simp only [pick, List.map_cons, List.map_nil, List.getD_cons_zero, List.getD_cons_succ]
    refine rg_one rfl rfl ?_; intro K hK; go_simp
    with_reducible refine (FI _).out.mono ?_
    rintro e1 wc ⟨rfl, hn⟩
    have hS := hS.trans (hn.mono hS.size)
    (try have n2 := n2.below hn)
    (try have n1 := n1.below hn)
    refine hK _ _ (fun _ => hS) ?_; clear hK hn
    refine rg_one rfl rfl ?_; intro K hK; go_simp
    with_reducible refine (CK _ _ n1).out.mono ?_
    rintro e1 wc ⟨rfl, hn⟩
    have hS := hS.trans (hn.mono hS.size)
    (try have n2 := n2.below hn)
    (try have n1 := n1.below hn)
    refine hK _ _ (fun _ => hS) ?_; clear hK hn
    refine rg_take (v := ?v26_6) rfl rfl hS ?y26_6 ?_
    case y26_6 => intro W hW; (try subst hW); go_simp; try with_reducible rfl
    simp only [Act.put, List.setIfInBounds_toArray, List.set_cons_zero, List.set_cons_succ]
    refine rg_take rfl rfl hS (fun W hW => exec_load_agg at25w (.tmp 21) rfl G21 25 (bvs h2) rfl (xe21.below hW xe21.lt) (by rw [bvs_length]; exact L2.out)) ?_
    simp only [Act.put, List.setIfInBounds_toArray, List.set_cons_zero, List.set_cons_succ]
    refine rg_take rfl rfl hS (fun W hW => exec_load_agg at25w (.tmp 2) rfl gb 25 (bvs b) rfl (xb21.below hW xb21.lt) (by rw [bvs_length]; exact LB.out)) ?_
    simp only [Act.put, List.setIfInBounds_toArray, List.set_cons_zero, List.set_cons_succ]
    refine rg_take rfl rfl hS (fun W hW => exec_load_agg at25w (.tmp 1) rfl ga 25 (bvs a) rfl (xa21.below hW xa21.lt) (by rw [bvs_length]; exact LA.out)) ?_
    simp only [Act.put, List.setIfInBounds_toArray, List.set_cons_zero, List.set_cons_succ]
    refine rg_fork [7, 11] (by kernel_rfl) ?_
    simp only [pick, List.map_cons, List.map_nil, List.getD_cons_zero, List.getD_cons_succ]
    refine ⟨⟨rfl, ?_⟩, ⟨rfl, ?_⟩, trivial⟩
    · intro K hK; go_simp
      with_reducible refine (FI _).out.mono ?_
      rintro e1 wc ⟨rfl, hn⟩
      have hS := hS.trans (hn.mono hS.size)
      (try have n2 := n2.below hn)
      (try have n1 := n1.below hn)
      refine hK _ _ (fun _ => hS) ?_; clear hK hn
      refine rg_more [11, 12, 13, 14, 15] 0 (by kernel_rfl) ?_
      simp only [pick, List.map_cons, List.map_nil, List.getD_cons_zero, List.getD_cons_succ]
      refine rg_one rfl rfl ?_; intro K hK
      refine wp_build_dig2 b a LB.out LA.out _ _ rfl rfl rfl ?_
      have n2 : Hl (wc.alloc (.cells (bvs (b ++ a)).toArray 25)) (some ⟨wc.heap.size, 0, none⟩) 2 2 [b, a] := hl_two (Blk.new _ _ _) LB.out LA.out
      have hS := hS.alloc hS.size (.cells (bvs (b ++ a)).toArray 25)
      refine hK _ _ (fun _ => hS) ?_; clear hK
      generalize wc.heap.size = gq at *
      generalize World.alloc wc _ = wc at *
      refine rg_one rfl rfl ?_; intro K hK; go_simp
      with_reducible refine (CX _ _ n2).out.mono ?_
      rintro e1 wc ⟨rfl, hn⟩
      have hS := hS.trans (hn.mono hS.size)
      (try have n2 := n2.below hn)
      (try have n1 := n1.below hn)
      refine hK _ _ (fun _ => hS) ?_; clear hK hn
      refine rg_take (v := ?v27_13) rfl rfl hS ?y27_13 ?_
      case y27_13 => intro W hW; (try subst hW); go_simp; try with_reducible rfl
      simp only [Act.put, List.setIfInBounds_toArray, List.set_cons_zero, List.set_cons_succ]
      refine rg_take (v := ?v27_14) rfl rfl hS ?y27_14 ?_
      case y27_14 => intro W hW; (try subst hW); go_simp; try with_reducible rfl
      simp only [Act.put, List.setIfInBounds_toArray, List.set_cons_zero, List.set_cons_succ]
      refine rg_take (v := ?v27_15) rfl rfl hS ?y27_15 ?_
      case y27_15 => intro W hW; (try subst hW); go_simp; try with_reducible rfl
      simp only [Act.put, List.setIfInBounds_toArray, List.set_cons_zero, List.set_cons_succ]
      refine rg_done (by kernel_rfl) ?_
      have VV := hS
      clear hS n1 n2
      generalize wc = w22 at *
      have xa22 := xa21.below VV xa21.lt
      have xb22 := xb21.below VV xb21.lt
      have lg22 := lg21.below VV
      have xc22 := xc21.below VV xc21.lt
      have xd22 := xd21.below VV xd21.lt
      have yr22 := yr21.below VV
      have xe22 := xe21.below VV xe21.lt
      have B22 := bthen B21 VV B21.size
      clear xa21 xb21 lg21 xc21 xd21 yr21 xe21 B21 VV CK CX
      clear xe22
      go_upto_region 17 with fail
      refine wp_region_lit ?_
      refine wpList_yield rfl _ (exec_move _ rfl) ?_
      simp only [Act.put, Act.eval, Array.getD_eq_getD_getElem?, List.getElem?_toArray, List.getElem?_cons_succ, List.getElem?_cons_zero, Option.getD_some, List.setIfInBounds_toArray, List.set_cons_zero, List.set_cons_succ]
      refine wpList_yield rfl _ (exec_move _ rfl) ?_
      simp only [Act.put, Act.eval, Array.getD_eq_getD_getElem?, List.getElem?_toArray, List.getElem?_cons_succ, List.getElem?_cons_zero, Option.getD_some, List.setIfInBounds_toArray, List.set_cons_zero, List.set_cons_succ]
      refine wpList_plain rfl fun K hK => ?_; go_simp
      with_reducible refine (X1 RB rc w22 yr22).out.mono ?_
      rintro e1 w23 ⟨B1, k1, d1, B2, k2, d2, rfl, V23⟩
      refine hK _ _ ?_; clear hK
      (try simp only [Act.put, List.setIfInBounds_toArray, List.set_cons_zero, List.set_cons_succ])
      refine wpList_yield rfl _ (exec_move _ rfl) ?_
      simp only [Act.put, Act.eval, Array.getD_eq_getD_getElem?, List.getElem?_toArray, List.getElem?_cons_succ, List.getElem?_cons_zero, Option.getD_some, List.setIfInBounds_toArray, List.set_cons_zero, List.set_cons_succ]
      refine wpList_yield rfl ?vp107_4 ?yp107_4 ?_
      case yp107_4 => go_simp; try with_reducible rfl
      simp only [Act.put, List.setIfInBounds_toArray, List.set_cons_zero, List.set_cons_succ]
      refine wpList_yield rfl ?vp108_5 ?yp108_5 ?_
      case yp108_5 => go_simp; try with_reducible rfl
      simp only [Act.put, List.setIfInBounds_toArray, List.set_cons_zero, List.set_cons_succ]
      refine wpList_plain rfl fun K hK => ?_; go_simp
      refine hK _ _ ?_; clear hK
      (try simp only [Act.put, List.setIfInBounds_toArray, List.set_cons_zero, List.set_cons_succ])
      refine wpList_store_at at124.i rfl (.tmp 24) (.tmp 118) rfl w23.heap.size 0 124 [.slice none 0 0, .slice none 0 0] [.slice B1 k1 d1, .slice B2 k2 d2] rfl rfl (z124 w23).out rfl (Nat.le_refl 2) (by simp [Value.oneCell']) ?_
      intro w24 b24 g24 s24
      (try simp only [Act.put, List.setIfInBounds_toArray, List.set_cons_zero, List.set_cons_succ])
      refine wpList_yield rfl _ (exec_assign _ rfl) ?_
      simp only [Act.put, Act.eval, Array.getD_eq_getD_getElem?, List.getElem?_toArray, List.getElem?_cons_succ, List.getElem?_cons_zero, Option.getD_some, List.setIfInBounds_toArray, List.set_cons_zero, List.set_cons_succ]
      refine wpList_nil ?_
      have V24 : Below w22.heap.size w22 w24 := (V23.alloc V23.size (.cells #[.slice none 0 0, .slice none 0 0] 124)).grown g24 (by have := V23.size; simp; omega) (by intro k hk; cases hk; exact V23.size)
      have xa24 := xa22.below V24 xa22.lt
      have xb24 := xb22.below V24 xb22.lt
      have lg24 := lg22.below V24
      have xc24 := xc22.below V24 xc22.lt
      have xd24 := xd22.below V24 xd22.lt
      have yr24 := yr22.below V24
      have B24 := bthen B22 V24 B22.size
      clear xa22 xb22 lg22 xc22 xd22 yr22 B22 V24 V23 g24 s24 b24 X1
      generalize w23.heap.size = G24 at *
      have hrc := yr24.cap
      go_upto_region 18 with fail
      refine wp_region_lit ?_
      refine wpList_yield rfl _ (exec_move _ rfl) ?_
      simp only [Act.put, Act.eval, Array.getD_eq_getD_getElem?, List.getElem?_toArray, List.getElem?_cons_succ, List.getElem?_cons_zero, Option.getD_some, List.setIfInBounds_toArray, List.set_cons_zero, List.set_cons_succ]
      refine wpList_yield rfl _ (exec_move _ rfl) ?_
      simp only [Act.put, Act.eval, Array.getD_eq_getD_getElem?, List.getElem?_toArray, List.getElem?_cons_succ, List.getElem?_cons_zero, Option.getD_some, List.setIfInBounds_toArray, List.set_cons_zero, List.set_cons_succ]
      refine wpList_yield rfl _ (exec_slice_to st132 _ _ rfl RB 2 rc 1 .i64 rfl rfl (by omega)) ?_
      simp only [Act.put, List.setIfInBounds_toArray, List.set_cons_zero, List.set_cons_succ]
      refine wpList_plain rfl fun K hK => ?_; go_simp
      with_reducible refine (X2 RB rc w24 yr24).out.mono ?_
      rintro e1 w25 ⟨B1, k1, d1, B2, k2, d2, rfl, V25⟩
      refine hK _ _ ?_; clear hK
      (try simp only [Act.put, List.setIfInBounds_toArray, List.set_cons_zero, List.set_cons_succ])
      refine wpList_yield rfl _ (exec_move _ rfl) ?_
      simp only [Act.put, Act.eval, Array.getD_eq_getD_getElem?, List.getElem?_toArray, List.getElem?_cons_succ, List.getElem?_cons_zero, Option.getD_some, List.setIfInBounds_toArray, List.set_cons_zero, List.set_cons_succ]
      refine wpList_yield rfl ?vp109_5 ?yp109_5 ?_
      case yp109_5 => go_simp; try with_reducible rfl
      simp only [Act.put, List.setIfInBounds_toArray, List.set_cons_zero, List.set_cons_succ]
      refine wpList_yield rfl ?vp110_6 ?yp110_6 ?_
      case yp110_6 => go_simp; try with_reducible rfl
      simp only [Act.put, List.setIfInBounds_toArray, List.set_cons_zero, List.set_cons_succ]
      refine wpList_plain rfl fun K hK => ?_; go_simp
      refine hK _ _ ?_; clear hK
      (try simp only [Act.put, List.setIfInBounds_toArray, List.set_cons_zero, List.set_cons_succ])
      refine wpList_store_at at124.i rfl (.tmp 26) (.tmp 125) rfl w25.heap.size 0 124 [.slice none 0 0, .slice none 0 0] [.slice B1 k1 d1, .slice B2 k2 d2] rfl rfl (z124 w25).out rfl (Nat.le_refl 2) (by simp [Value.oneCell']) ?_
      intro w26 b26 g26 s26
      (try simp only [Act.put, List.setIfInBounds_toArray, List.set_cons_zero, List.set_cons_succ])
      refine wpList_yield rfl _ (exec_assign _ rfl) ?_
      simp only [Act.put, Act.eval, Array.getD_eq_getD_getElem?, List.getElem?_toArray, List.getElem?_cons_succ, List.getElem?_cons_zero, Option.getD_some, List.setIfInBounds_toArray, List.set_cons_zero, List.set_cons_succ]
      refine wpList_nil ?_
      have V26 : Below w24.heap.size w24 w26 := (V25.alloc V25.size (.cells #[.slice none 0 0, .slice none 0 0] 124)).grown g26 (by have := V25.size; simp; omega) (by intro k hk; cases hk; exact V25.size)
      have xa26 := xa24.below V26 xa24.lt
      have xb26 := xb24.below V26 xb24.lt
      have lg26 := lg24.below V26
      have xc26 := xc24.below V26 xc24.lt
      have xd26 := xd24.below V26 xd24.lt
      have yr26 := yr24.below V26
      have B26 := bthen B24 V26 B24.size
      clear xa24 xb24 lg24 xc24 xd24 yr24 B24 V26 V25 g26 s26 b26 X2
      generalize w25.heap.size = G26 at *
      go_upto_region 19 with fail
      refine wp_region_lit ?_
      refine wpList_make_digs rfl _ _ rfl 4096 rfl rfl (by omega) ?_
      intro w27 m27 V27
      rw [HM.out] at m27
      (try simp only [Act.put, List.setIfInBounds_toArray, List.set_cons_zero, List.set_cons_succ])
      refine wpList_plain rfl fun K hK => ?_; go_simp
      with_reducible refine (FU _ _ m27).out.mono ?_
      rintro e1 w28 ⟨gf, Sf, rfl, lgf28, V28⟩
      refine hK _ _ ?_; clear hK
      (try simp only [Act.put, List.setIfInBounds_toArray, List.set_cons_zero, List.set_cons_succ])
      refine wpList_yield rfl _ (exec_move _ rfl) ?_
      simp only [Act.put, Act.eval, Array.getD_eq_getD_getElem?, List.getElem?_toArray, List.getElem?_cons_succ, List.getElem?_cons_zero, Option.getD_some, List.setIfInBounds_toArray, List.set_cons_zero, List.set_cons_succ]
      refine wpList_yield rfl ?vp111_3 ?yp111_3 ?_
      case yp111_3 => go_simp; try with_reducible rfl
      simp only [Act.put, List.setIfInBounds_toArray, List.set_cons_zero, List.set_cons_succ]
      refine wpList_yield rfl ?vp112_4 ?yp112_4 ?_
      case yp112_4 => go_simp; try with_reducible rfl
      simp only [Act.put, List.setIfInBounds_toArray, List.set_cons_zero, List.set_cons_succ]
      refine wpList_yield rfl _ (exec_assign _ rfl) ?_
      simp only [Act.put, Act.eval, Array.getD_eq_getD_getElem?, List.getElem?_toArray, List.getElem?_cons_succ, List.getElem?_cons_zero, Option.getD_some, List.setIfInBounds_toArray, List.set_cons_zero, List.set_cons_succ]
      refine wpList_yield rfl _ (exec_assign _ rfl) ?_
      simp only [Act.put, Act.eval, Array.getD_eq_getD_getElem?, List.getElem?_toArray, List.getElem?_cons_succ, List.getElem?_cons_zero, Option.getD_some, List.setIfInBounds_toArray, List.set_cons_zero, List.set_cons_succ]
      refine wpList_nil ?_
      have V28 := bthen V27 V28 V27.size
      have xa28 := xa26.below V28 xa26.lt
      have xb28 := xb26.below V28 xb26.lt
      have lg28 := lg26.below V28
      have xc28 := xc26.below V28 xc26.lt
      have xd28 := xd26.below V28 xd26.lt
      have yr28 := yr26.below V28
      have B28 := bthen B26 V28 B26.size
      clear xa26 xb26 lg26 xc26 xd26 yr26 B26 V28 V27 m27 FU HM
      go_upto_region 20 with fail
      refine wp_region_lit ?_
      refine wpList_yield rfl _ (exec_move _ rfl) ?_
      simp only [Act.put, Act.eval, Array.getD_eq_getD_getElem?, List.getElem?_toArray, List.getElem?_cons_succ, List.getElem?_cons_zero, Option.getD_some, List.setIfInBounds_toArray, List.set_cons_zero, List.set_cons_succ]
      refine wpList_yield rfl _ (exec_load_agg at25w (.tmp 1) rfl ga 25 (bvs a) rfl xa28 (by rw [bvs_length]; exact LA.out)) ?_
      simp only [Act.put, List.setIfInBounds_toArray, List.set_cons_zero, List.set_cons_succ]
      refine wpList_plain rfl fun K hK => ?_; go_simp
      with_reducible refine (AD Sf gf w28 lgf28).out.mono ?_
      rintro e1 w29 ⟨rfl, V29⟩
      refine hK _ _ ?_; clear hK
      (try simp only [Act.put, List.setIfInBounds_toArray, List.set_cons_zero, List.set_cons_succ])
      refine wpList_yield rfl _ (exec_move _ rfl) ?_
      simp only [Act.put, Act.eval, Array.getD_eq_getD_getElem?, List.getElem?_toArray, List.getElem?_cons_succ, List.getElem?_cons_zero, Option.getD_some, List.setIfInBounds_toArray, List.set_cons_zero, List.set_cons_succ]
      refine wpList_yield rfl ?vp113_4 ?yp113_4 ?_
      case yp113_4 => go_simp; try with_reducible rfl
      simp only [Act.put, List.setIfInBounds_toArray, List.set_cons_zero, List.set_cons_succ]
      refine wpList_yield rfl ?vp114_5 ?yp114_5 ?_
      case yp114_5 => go_simp; try with_reducible rfl
      simp only [Act.put, List.setIfInBounds_toArray, List.set_cons_zero, List.set_cons_succ]
      refine wpList_yield rfl _ (exec_assign _ rfl) ?_
      simp only [Act.put, Act.eval, Array.getD_eq_getD_getElem?, List.getElem?_toArray, List.getElem?_cons_succ, List.getElem?_cons_zero, Option.getD_some, List.setIfInBounds_toArray, List.set_cons_zero, List.set_cons_succ]
      refine wpList_yield rfl _ (exec_assign _ rfl) ?_
      simp only [Act.put, Act.eval, Array.getD_eq_getD_getElem?, List.getElem?_toArray, List.getElem?_cons_succ, List.getElem?_cons_zero, Option.getD_some, List.setIfInBounds_toArray, List.set_cons_zero, List.set_cons_succ]
      refine wpList_nil ?_
      have xa29 := xa28.below V29 xa28.lt
      have xb29 := xb28.below V29 xb28.lt
      have lg29 := lg28.below V29
      have xc29 := xc28.below V29 xc28.lt
      have xd29 := xd28.below V29 xd28.lt
      have yr29 := yr28.below V29
      have lgf29 := lgf28.below V29
      have B29 := bthen B28 V29 B28.size
      clear xa28 xb28 lg28 xc28 xd28 yr28 lgf28 B28 V29 AD
      clear lgf29
      clear lg29
      go_upto_region 21 with fail
      refine wp_region_lit ?_
      refine wpList_plain rfl fun K hK => ?_; go_simp
      refine hK _ _ ?_; clear hK
      (try simp only [Act.put, List.setIfInBounds_toArray, List.set_cons_zero, List.set_cons_succ])
      refine wpList_plain rfl fun K hK => ?_; go_simp
      with_reducible refine (SF _ _ (tx_one 4 (.int .u8 4) rfl w29)).out.mono ?_
      rintro e1 w30 ⟨rfl, V30⟩
      have V30 : Below w29.heap.size w29 w30 := ((Below.refl _ _).alloc (Nat.le_refl _) _).trans (V30.mono (by simp))
      refine hK _ _ ?_; clear hK
      (try simp only [Act.put, List.setIfInBounds_toArray, List.set_cons_zero, List.set_cons_succ])
      refine wpList_plain rfl fun K hK => ?_; go_simp
      refine hK _ _ ?_; clear hK
      (try simp only [Act.put, List.setIfInBounds_toArray, List.set_cons_zero, List.set_cons_succ])
      refine wpList_store_at at25w.i rfl (.tmp 32) (.tmp 139) rfl w30.heap.size 0 25 (bvs (zb 32)) (bvs FH) rfl rfl (z25 w30).out (by rw [bvs_length]; exact LF.out) (by rw [bvs_length, zb_length]; omega) (bvs_one _) ?_
      intro w31 xf31 g31 s31
      (try simp only [Act.put, List.setIfInBounds_toArray, List.set_cons_zero, List.set_cons_succ])
      refine wpList_nil ?_
      rw [splice_all _ _ (by rw [bvs_length, bvs_length, zb_length]; exact LF.out.symm)] at xf31
      have V31 : Below w29.heap.size w29 w31 := (V30.alloc V30.size (.cells (bvs (zb 32)).toArray 25)).grown g31 (by have := V30.size; simp; omega) (by intro k hk; cases hk; exact V30.size)
      have xa31 := xa29.below V31 xa29.lt
      have xb31 := xb29.below V31 xb29.lt
      have xc31 := xc29.below V31 xc29.lt
      have xd31 := xd29.below V31 xd29.lt
      have yr31 := yr29.below V31
      have B31 := bthen B29 V31 B29.size
      clear xa29 xb29 xc29 xd29 yr29 B29 V31 V30 g31 s31 SF
      generalize w30.heap.size = G32 at *
      have hB0 := B31.size
      go_upto_region 22 with fail
      refine rg_begin (Below w31.heap.size w31) [] [0, 5, 7, 9, 10] [1, 0, 2, 3, 4, 6, 8, 5, 7, 9, 10, 11, 12, 13] 0 mixed (by kernel_rfl) (fun _ _ _ _ e hh => ⟨e.symm.trans hh.1, hh.2⟩) ?_
      simp only [pick, List.map_cons, List.map_nil, List.getD_cons_zero, List.getD_cons_succ]
      have hS : (Below w31.heap.size w31) _ := (Below.refl _ _).drew
      refine rg_take rfl rfl hS (fun W hW => exec_load_agg at25w (.tmp 32) rfl G32 25 (bvs FH) rfl (xf31.below hW xf31.lt) (by rw [bvs_length]; exact LF.out)) ?_
      simp only [Act.put, List.setIfInBounds_toArray, List.set_cons_zero, List.set_cons_succ]
      refine rg_one rfl rfl ?_; intro K hK; go_simp
      with_reducible refine (FI _).out.mono ?_
      rintro e1 u0 ⟨rfl, Vu0⟩
      have hS1 : Below w31.heap.size w31 u0 := Below.trans hS (Vu0.mono (Below.size hS))
      refine hK _ _ (fun _ => hS1) ?_; clear hK
      refine rg_take rfl rfl hS1 (fun W hW => exec_eql_same ab25 _ _ rfl FH rfl rfl LF.out) ?_
      simp only [Act.put, List.setIfInBounds_toArray, List.set_cons_zero, List.set_cons_succ]
      refine rg_take (v := ?v115_3) rfl rfl hS1 ?y115_3 ?_
      case y115_3 => intro W hW; (try subst hW); go_simp; try with_reducible rfl
      simp only [Act.put, List.setIfInBounds_toArray, List.set_cons_zero, List.set_cons_succ]
      refine rg_take rfl rfl hS1 (fun W hW => exec_load_agg at25w (.tmp 5) rfl G5 25 (bvs h1) rfl (xc31.below hW xc31.lt) (by rw [bvs_length]; exact L1.out)) ?_
      simp only [Act.put, List.setIfInBounds_toArray, List.set_cons_zero, List.set_cons_succ]
      refine rg_take rfl rfl hS1 (fun W hW => exec_arr_all ia25 _ rfl G32 0 rfl) ?_
      simp only [Act.put, List.setIfInBounds_toArray, List.set_cons_zero, List.set_cons_succ]
      refine rg_take rfl rfl hS1 (fun W hW => exec_arr_all ia25 _ rfl ga 0 rfl) ?_
      simp only [Act.put, List.setIfInBounds_toArray, List.set_cons_zero, List.set_cons_succ]
      refine rg_one rfl rfl ?_; intro K hK; go_simp
      have hS2 : Below w31.heap.size w31 (u0.alloc (.cells #[.int .u8 5] 5)) := hS1.alloc (Below.size hS1) _
      have o5 : OwnB (u0.alloc (.cells #[.int .u8 5] 5)) w31.heap.size 5 (.slice (some ⟨u0.heap.size, 0, none⟩) 1 1) [5] := own_one u0 5 (.int .u8 5) rfl (Below.size hS1)
      refine hK _ _ (fun _ => hS2) ?_; clear hK
      refine rg_one rfl rfl ?_; intro K hK
      refine wp_append_bytes bt (.tmp 145) (.tmp 146) rfl w31.heap.size _ [5] rfl o5 (some ⟨G32, 0, none⟩) 32 32 FH rfl LF.out (Rd.of_blk0 (es := []) (by simpa using xf31.below hS2 xf31.lt)) (by simp) (Below.size hS2) ?_
      intro q7 u7 o7 g7 h7
      have hS3 : Below w31.heap.size w31 u7 := hS2.grown g7 (Below.size hS2) (by intro k hk; exact (OwnB.lt o5 k hk).1)
      refine hK _ _ (fun _ => hS3) ?_; clear hK
      refine rg_one rfl rfl ?_; intro K hK
      refine wp_append_bytes bt (.tmp 147) (.tmp 148) rfl w31.heap.size _ ([5] ++ FH) rfl o7 (some ⟨ga, 0, none⟩) 32 32 a rfl LA.out (Rd.of_blk0 (es := []) (by simpa using xa31.below hS3 xa31.lt)) (by simp; have := LF.out; omega) (Below.size hS3) ?_
      intro q9 u9 o9 g9 h9
      have hS4 : Below w31.heap.size w31 u9 := hS3.grown g9 (Below.size hS3) (by intro k hk; exact (OwnB.lt o7 k hk).1)
      refine hK _ _ (fun _ => hS4) ?_; clear hK
      obtain ⟨A9, c9, rfl, t9a, t9b, t9⟩ := o9.rd
      have hn9 : ([5] ++ FH ++ a).length = 65 := by simp; rw [LF.out, LA.out]
      have t9x := Tx.mk_ rfl t9a t9b t9
      clear t9a t9b t9
      generalize ([5] ++ FH ++ a).length = n9 at *
      rw [show [5] ++ FH ++ a = 5 :: (FH ++ a) from rfl] at t9x
      subst hn9
      refine rg_one rfl rfl ?_; intro K hK; go_simp
      with_reducible refine (S1 _ _ _ _ t9x rfl).out.mono ?_
      rintro e1 u10 ⟨rfl, Vu10⟩
      have hS5 : Below w31.heap.size w31 u10 := Below.trans hS4 (Vu10.mono (Below.size hS4))
      refine hK _ _ (fun _ => hS5) ?_; clear hK
      refine rg_take rfl rfl hS5 (fun W hW => exec_eql_same ab25 _ _ rfl h1 rfl rfl L1.out) ?_
      simp only [Act.put, List.setIfInBounds_toArray, List.set_cons_zero, List.set_cons_succ]
      refine rg_take (v := ?v115_12) rfl rfl hS5 ?y115_12 ?_
      case y115_12 => intro W hW; (try subst hW); go_simp; try with_reducible rfl
      simp only [Act.put, List.setIfInBounds_toArray, List.set_cons_zero, List.set_cons_succ]
      refine rg_take (v := ?v115_13) rfl rfl hS5 ?y115_13 ?_
      case y115_13 => intro W hW; (try subst hW); go_simp; try with_reducible rfl
      simp only [Act.put, List.setIfInBounds_toArray, List.set_cons_zero, List.set_cons_succ]
      refine rg_done (by kernel_rfl) ?_
      have VV := hS5
      clear hS hS1 hS2 hS3 hS4 hS5 Vu0 Vu10 o5 o7 g7 g9 h7 h9
      
      generalize u10 = w32 at *
      have xa32 := xa31.below VV xa31.lt
      have xb32 := xb31.below VV xb31.lt
      have xc32 := xc31.below VV xc31.lt
      have xd32 := xd31.below VV xd31.lt
      have yr32 := yr31.below VV
      have xf32 := xf31.below VV xf31.lt
      have B32 := bthen B31 VV B31.size
      clear xa31 xb31 xc31 xd31 yr31 xf31 B31 VV S1 FI
      go_upto_region 23 with fail
      refine wp_region_lit ?_
      refine wpList_yield rfl _ (exec_move _ rfl) ?_
      simp only [Act.put, Act.eval, Array.getD_eq_getD_getElem?, List.getElem?_toArray, List.getElem?_cons_succ, List.getElem?_cons_zero, Option.getD_some, List.setIfInBounds_toArray, List.set_cons_zero, List.set_cons_succ]
      refine wpList_plain_w rfl fun K hK => ?_; go_simp
      with_reducible refine (AW _).out.mono ?_
      rintro e1 u1 ⟨rfl, V1⟩
      refine hK _ _ ?_; clear hK
      (try simp only [Act.put, List.setIfInBounds_toArray, List.set_cons_zero, List.set_cons_succ])
      refine wpList_yield rfl ?vp116_2 ?yp116_2 ?_
      case yp116_2 => go_simp; try with_reducible rfl
      simp only [Act.put, List.setIfInBounds_toArray, List.set_cons_zero, List.set_cons_succ]
      refine wpList_yield rfl _ (exec_move _ rfl) ?_
      simp only [Act.put, Act.eval, Array.getD_eq_getD_getElem?, List.getElem?_toArray, List.getElem?_cons_succ, List.getElem?_cons_zero, Option.getD_some, List.setIfInBounds_toArray, List.set_cons_zero, List.set_cons_succ]
      refine wpList_yield_w rfl _ (exec_move _ rfl) ?_
      simp only [Act.put, Act.eval, Array.getD_eq_getD_getElem?, List.getElem?_toArray, List.getElem?_cons_succ, List.getElem?_cons_zero, Option.getD_some, List.setIfInBounds_toArray, List.set_cons_zero, List.set_cons_succ]
      refine wpList_yield rfl ?vp117_5 ?yp117_5 ?_
      case yp117_5 => go_simp; try with_reducible rfl
      simp only [Act.put, List.setIfInBounds_toArray, List.set_cons_zero, List.set_cons_succ]
      refine wpList_yield rfl _ (exec_move _ rfl) ?_
      simp only [Act.put, Act.eval, Array.getD_eq_getD_getElem?, List.getElem?_toArray, List.getElem?_cons_succ, List.getElem?_cons_zero, Option.getD_some, List.setIfInBounds_toArray, List.set_cons_zero, List.set_cons_succ]
      refine wpList_yield_w rfl _ (exec_move _ rfl) ?_
      simp only [Act.put, Act.eval, Array.getD_eq_getD_getElem?, List.getElem?_toArray, List.getElem?_cons_succ, List.getElem?_cons_zero, Option.getD_some, List.setIfInBounds_toArray, List.set_cons_zero, List.set_cons_succ]
      refine wpList_yield_w rfl ?vp118_8 ?yp118_8 ?_
      case yp118_8 => go_simp; try with_reducible rfl
      simp only [Act.put, List.setIfInBounds_toArray, List.set_cons_zero, List.set_cons_succ]
      refine wpList_yield rfl ?vp119_9 ?yp119_9 ?_
      case yp119_9 => go_simp; try with_reducible rfl
      simp only [Act.put, List.setIfInBounds_toArray, List.set_cons_zero, List.set_cons_succ]
      refine wpList_yield rfl _ (exec_move _ rfl) ?_
      simp only [Act.put, Act.eval, Array.getD_eq_getD_getElem?, List.getElem?_toArray, List.getElem?_cons_succ, List.getElem?_cons_zero, Option.getD_some, List.setIfInBounds_toArray, List.set_cons_zero, List.set_cons_succ]
      refine wpList_yield_w rfl _ (exec_load_agg at25w (.tmp 7) rfl G7 25 (bvs b) rfl (xd32.below V1 xd32.lt) (by rw [bvs_length]; exact LB.out)) ?_
      simp only [Act.put, List.setIfInBounds_toArray, List.set_cons_zero, List.set_cons_succ]
      refine wpList_yield_w rfl _ (exec_load_agg at25w (.tmp 2) rfl gb 25 (bvs b) rfl (xb32.below V1 xb32.lt) (by rw [bvs_length]; exact LB.out)) ?_
      simp only [Act.put, List.setIfInBounds_toArray, List.set_cons_zero, List.set_cons_succ]
      refine wpList_yield_w rfl _ (exec_eql_same ab25 _ _ rfl b rfl rfl LB.out) ?_
      simp only [Act.put, List.setIfInBounds_toArray, List.set_cons_zero, List.set_cons_succ]
      refine wpList_yield rfl ?vp120_14 ?yp120_14 ?_
      case yp120_14 => go_simp; try with_reducible rfl
      simp only [Act.put, List.setIfInBounds_toArray, List.set_cons_zero, List.set_cons_succ]
      refine wpList_yield rfl _ (exec_move _ rfl) ?_
      simp only [Act.put, Act.eval, Array.getD_eq_getD_getElem?, List.getElem?_toArray, List.getElem?_cons_succ, List.getElem?_cons_zero, Option.getD_some, List.setIfInBounds_toArray, List.set_cons_zero, List.set_cons_succ]
      refine wpList_yield_w rfl _ (exec_move _ rfl) ?_
      simp only [Act.put, Act.eval, Array.getD_eq_getD_getElem?, List.getElem?_toArray, List.getElem?_cons_succ, List.getElem?_cons_zero, Option.getD_some, List.setIfInBounds_toArray, List.set_cons_zero, List.set_cons_succ]
      refine wpList_yield_w rfl ?vp121_17 ?yp121_17 ?_
      case yp121_17 => go_simp; try with_reducible rfl
      simp only [Act.put, List.setIfInBounds_toArray, List.set_cons_zero, List.set_cons_succ]
      refine wpList_yield rfl ?vp122_18 ?yp122_18 ?_
      case yp122_18 => go_simp; try with_reducible rfl
      simp only [Act.put, List.setIfInBounds_toArray, List.set_cons_zero, List.set_cons_succ]
      refine wpList_yield rfl _ (exec_move _ rfl) ?_
      simp only [Act.put, Act.eval, Array.getD_eq_getD_getElem?, List.getElem?_toArray, List.getElem?_cons_succ, List.getElem?_cons_zero, Option.getD_some, List.setIfInBounds_toArray, List.set_cons_zero, List.set_cons_succ]
      refine wpList_yield_w rfl _ (exec_move _ rfl) ?_
      simp only [Act.put, Act.eval, Array.getD_eq_getD_getElem?, List.getElem?_toArray, List.getElem?_cons_succ, List.getElem?_cons_zero, Option.getD_some, List.setIfInBounds_toArray, List.set_cons_zero, List.set_cons_succ]
      refine wpList_yield_w rfl ?vp123_21 ?yp123_21 ?_
      case yp123_21 => go_simp; try with_reducible rfl
      simp only [Act.put, List.setIfInBounds_toArray, List.set_cons_zero, List.set_cons_succ]
      refine wpList_yield rfl ?vp124_22 ?yp124_22 ?_
      case yp124_22 => go_simp; try with_reducible rfl
      simp only [Act.put, List.setIfInBounds_toArray, List.set_cons_zero, List.set_cons_succ]
      refine wpList_yield rfl _ (exec_move _ rfl) ?_
      simp only [Act.put, Act.eval, Array.getD_eq_getD_getElem?, List.getElem?_toArray, List.getElem?_cons_succ, List.getElem?_cons_zero, Option.getD_some, List.setIfInBounds_toArray, List.set_cons_zero, List.set_cons_succ]
      refine wpList_yield_w rfl _ (exec_move _ rfl) ?_
      simp only [Act.put, Act.eval, Array.getD_eq_getD_getElem?, List.getElem?_toArray, List.getElem?_cons_succ, List.getElem?_cons_zero, Option.getD_some, List.setIfInBounds_toArray, List.set_cons_zero, List.set_cons_succ]
      refine wpList_yield_w rfl ?vp125_25 ?yp125_25 ?_
      case yp125_25 => go_simp; try with_reducible rfl
      simp only [Act.put, List.setIfInBounds_toArray, List.set_cons_zero, List.set_cons_succ]
      refine wpList_yield rfl ?vp126_26 ?yp126_26 ?_
      case yp126_26 => go_simp; try with_reducible rfl
      simp only [Act.put, List.setIfInBounds_toArray, List.set_cons_zero, List.set_cons_succ]
      refine wpList_yield rfl _ (exec_move _ rfl) ?_
      simp only [Act.put, Act.eval, Array.getD_eq_getD_getElem?, List.getElem?_toArray, List.getElem?_cons_succ, List.getElem?_cons_zero, Option.getD_some, List.setIfInBounds_toArray, List.set_cons_zero, List.set_cons_succ]
      refine wpList_yield_w rfl _ (exec_move _ rfl) ?_
      simp only [Act.put, Act.eval, Array.getD_eq_getD_getElem?, List.getElem?_toArray, List.getElem?_cons_succ, List.getElem?_cons_zero, Option.getD_some, List.setIfInBounds_toArray, List.set_cons_zero, List.set_cons_succ]
      refine wpList_yield_w rfl _ (exec_load_agg at25w (.tmp 1) rfl ga 25 (bvs a) rfl (xa32.below V1 xa32.lt) (by rw [bvs_length]; exact LA.out)) ?_
      simp only [Act.put, List.setIfInBounds_toArray, List.set_cons_zero, List.set_cons_succ]
      refine wpList_yield_w rfl _ (exec_load_agg at25w (.tmp 2) rfl gb 25 (bvs b) rfl (xb32.below V1 xb32.lt) (by rw [bvs_length]; exact LB.out)) ?_
      simp only [Act.put, List.setIfInBounds_toArray, List.set_cons_zero, List.set_cons_succ]
      refine wpList_plain_w rfl fun K hK => ?_
      refine wp_build_dig2 a b LA.out LB.out _ _ rfl rfl rfl ?_
      have n1 : Hl (u1.alloc (.cells (bvs (a ++ b)).toArray 25)) (some ⟨u1.heap.size, 0, none⟩) 2 2 [a, b] := hl_two (Blk.new _ _ _) LA.out LB.out
      have V2 : Below w32.heap.size w32 (u1.alloc (.cells (bvs (a ++ b)).toArray 25)) := V1.alloc V1.size _
      refine hK _ _ ?_; clear hK
      (try simp only [Act.put, List.setIfInBounds_toArray, List.set_cons_zero, List.set_cons_succ])
      refine wpList_plain_w rfl fun K hK => ?_; go_simp
      with_reducible refine (SM _ _ _ _ (yr32.below V2) n1).out.mono ?_
      rintro e1 u2 ⟨rfl, V3⟩
      refine hK _ _ ?_; clear hK
      (try simp only [Act.put, List.setIfInBounds_toArray, List.set_cons_zero, List.set_cons_succ])
      refine wpList_yield rfl ?vp127_33 ?yp127_33 ?_
      case yp127_33 => go_simp; try with_reducible rfl
      simp only [Act.put, List.setIfInBounds_toArray, List.set_cons_zero, List.set_cons_succ]
      refine wpList_yield rfl _ (exec_move _ rfl) ?_
      simp only [Act.put, Act.eval, Array.getD_eq_getD_getElem?, List.getElem?_toArray, List.getElem?_cons_succ, List.getElem?_cons_zero, Option.getD_some, List.setIfInBounds_toArray, List.set_cons_zero, List.set_cons_succ]
      refine wpList_yield_w rfl _ (exec_move _ rfl) ?_
      simp only [Act.put, Act.eval, Array.getD_eq_getD_getElem?, List.getElem?_toArray, List.getElem?_cons_succ, List.getElem?_cons_zero, Option.getD_some, List.setIfInBounds_toArray, List.set_cons_zero, List.set_cons_succ]
      refine wpList_yield_w rfl ?vp128_36 ?yp128_36 ?_
      case yp128_36 => go_simp; try with_reducible rfl
      simp only [Act.put, List.setIfInBounds_toArray, List.set_cons_zero, List.set_cons_succ]
      refine wpList_yield rfl ?vp129_37 ?yp129_37 ?_
      case yp129_37 => go_simp; try with_reducible rfl
      simp only [Act.put, List.setIfInBounds_toArray, List.set_cons_zero, List.set_cons_succ]
      refine wpList_yield rfl _ (exec_move _ rfl) ?_
      simp only [Act.put, Act.eval, Array.getD_eq_getD_getElem?, List.getElem?_toArray, List.getElem?_cons_succ, List.getElem?_cons_zero, Option.getD_some, List.setIfInBounds_toArray, List.set_cons_zero, List.set_cons_succ]
      refine wpList_yield_w rfl _ (exec_move _ rfl) ?_
      simp only [Act.put, Act.eval, Array.getD_eq_getD_getElem?, List.getElem?_toArray, List.getElem?_cons_succ, List.getElem?_cons_zero, Option.getD_some, List.setIfInBounds_toArray, List.set_cons_zero, List.set_cons_succ]
      refine wpList_yield_w rfl ?vp130_40 ?yp130_40 ?_
      case yp130_40 => go_simp; try with_reducible rfl
      simp only [Act.put, List.setIfInBounds_toArray, List.set_cons_zero, List.set_cons_succ]
      refine wpList_yield rfl ?vp131_41 ?yp131_41 ?_
      case yp131_41 => go_simp; try with_reducible rfl
      simp only [Act.put, List.setIfInBounds_toArray, List.set_cons_zero, List.set_cons_succ]
      refine wpList_yield rfl _ (exec_move _ rfl) ?_
      simp only [Act.put, Act.eval, Array.getD_eq_getD_getElem?, List.getElem?_toArray, List.getElem?_cons_succ, List.getElem?_cons_zero, Option.getD_some, List.setIfInBounds_toArray, List.set_cons_zero, List.set_cons_succ]
      refine wpList_yield_w rfl _ (exec_move _ rfl) ?_
      simp only [Act.put, Act.eval, Array.getD_eq_getD_getElem?, List.getElem?_toArray, List.getElem?_cons_succ, List.getElem?_cons_zero, Option.getD_some, List.setIfInBounds_toArray, List.set_cons_zero, List.set_cons_succ]
      refine wpList_yield_w rfl ?vp132_44 ?yp132_44 ?_
      case yp132_44 => go_simp; try with_reducible rfl
      simp only [Act.put, List.setIfInBounds_toArray, List.set_cons_zero, List.set_cons_succ]
      refine wpList_yield rfl ?vp133_45 ?yp133_45 ?_
      case yp133_45 => go_simp; try with_reducible rfl
      simp only [Act.put, List.setIfInBounds_toArray, List.set_cons_zero, List.set_cons_succ]
      refine wpList_yield rfl _ (exec_move _ rfl) ?_
      simp only [Act.put, Act.eval, Array.getD_eq_getD_getElem?, List.getElem?_toArray, List.getElem?_cons_succ, List.getElem?_cons_zero, Option.getD_some, List.setIfInBounds_toArray, List.set_cons_zero, List.set_cons_succ]
      refine wpList_yield_w rfl _ (exec_move _ rfl) ?_
      simp only [Act.put, Act.eval, Array.getD_eq_getD_getElem?, List.getElem?_toArray, List.getElem?_cons_succ, List.getElem?_cons_zero, Option.getD_some, List.setIfInBounds_toArray, List.set_cons_zero, List.set_cons_succ]
      refine wpList_yield rfl ?vp134_48 ?yp134_48 ?_
      case yp134_48 => go_simp; try with_reducible rfl
      simp only [Act.put, List.setIfInBounds_toArray, List.set_cons_zero, List.set_cons_succ]
      refine wpList_yield rfl _ (exec_move _ rfl) ?_
      simp only [Act.put, Act.eval, Array.getD_eq_getD_getElem?, List.getElem?_toArray, List.getElem?_cons_succ, List.getElem?_cons_zero, Option.getD_some, List.setIfInBounds_toArray, List.set_cons_zero, List.set_cons_succ]
      refine wpList_yield_w rfl _ (exec_move _ rfl) ?_
      simp only [Act.put, Act.eval, Array.getD_eq_getD_getElem?, List.getElem?_toArray, List.getElem?_cons_succ, List.getElem?_cons_zero, Option.getD_some, List.setIfInBounds_toArray, List.set_cons_zero, List.set_cons_succ]
      refine wpList_yield_w rfl ?vp135_51 ?yp135_51 ?_
      case yp135_51 => go_simp; try with_reducible rfl
      simp only [Act.put, List.setIfInBounds_toArray, List.set_cons_zero, List.set_cons_succ]
      refine wpList_yield rfl ?vp136_52 ?yp136_52 ?_
      case yp136_52 => go_simp; try with_reducible rfl
      simp only [Act.put, List.setIfInBounds_toArray, List.set_cons_zero, List.set_cons_succ]
      refine wpList_yield rfl _ (exec_move _ rfl) ?_
      simp only [Act.put, Act.eval, Array.getD_eq_getD_getElem?, List.getElem?_toArray, List.getElem?_cons_succ, List.getElem?_cons_zero, Option.getD_some, List.setIfInBounds_toArray, List.set_cons_zero, List.set_cons_succ]
      refine wpList_yield_w rfl _ (exec_move _ rfl) ?_
      simp only [Act.put, Act.eval, Array.getD_eq_getD_getElem?, List.getElem?_toArray, List.getElem?_cons_succ, List.getElem?_cons_zero, Option.getD_some, List.setIfInBounds_toArray, List.set_cons_zero, List.set_cons_succ]
      refine wpList_yield rfl ?vp137_55 ?yp137_55 ?_
      case yp137_55 => go_simp; try with_reducible rfl
      simp only [Act.put, List.setIfInBounds_toArray, List.set_cons_zero, List.set_cons_succ]
      refine wpList_yield rfl _ (exec_move _ rfl) ?_
      simp only [Act.put, Act.eval, Array.getD_eq_getD_getElem?, List.getElem?_toArray, List.getElem?_cons_succ, List.getElem?_cons_zero, Option.getD_some, List.setIfInBounds_toArray, List.set_cons_zero, List.set_cons_succ]
      refine wpList_yield_w rfl _ (exec_move _ rfl) ?_
      simp only [Act.put, Act.eval, Array.getD_eq_getD_getElem?, List.getElem?_toArray, List.getElem?_cons_succ, List.getElem?_cons_zero, Option.getD_some, List.setIfInBounds_toArray, List.set_cons_zero, List.set_cons_succ]
      refine wpList_yield_w rfl ?vp138_58 ?yp138_58 ?_
      case yp138_58 => go_simp; try with_reducible rfl
      simp only [Act.put, List.setIfInBounds_toArray, List.set_cons_zero, List.set_cons_succ]
      refine wpList_yield rfl ?vp139_59 ?yp139_59 ?_
      case yp139_59 => go_simp; try with_reducible rfl
      simp only [Act.put, List.setIfInBounds_toArray, List.set_cons_zero, List.set_cons_succ]
      refine wpList_yield rfl _ (exec_move _ rfl) ?_
      simp only [Act.put, Act.eval, Array.getD_eq_getD_getElem?, List.getElem?_toArray, List.getElem?_cons_succ, List.getElem?_cons_zero, Option.getD_some, List.setIfInBounds_toArray, List.set_cons_zero, List.set_cons_succ]
      refine wpList_yield_w rfl _ (exec_move _ rfl) ?_
      simp only [Act.put, Act.eval, Array.getD_eq_getD_getElem?, List.getElem?_toArray, List.getElem?_cons_succ, List.getElem?_cons_zero, Option.getD_some, List.setIfInBounds_toArray, List.set_cons_zero, List.set_cons_succ]
      refine wpList_yield_w rfl ?vp140_62 ?yp140_62 ?_
      case yp140_62 => go_simp; try with_reducible rfl
      simp only [Act.put, List.setIfInBounds_toArray, List.set_cons_zero, List.set_cons_succ]
      refine wpList_yield rfl ?vp141_63 ?yp141_63 ?_
      case yp141_63 => go_simp; try with_reducible rfl
      simp only [Act.put, List.setIfInBounds_toArray, List.set_cons_zero, List.set_cons_succ]
      refine wpList_yield rfl _ (exec_move _ rfl) ?_
      simp only [Act.put, Act.eval, Array.getD_eq_getD_getElem?, List.getElem?_toArray, List.getElem?_cons_succ, List.getElem?_cons_zero, Option.getD_some, List.setIfInBounds_toArray, List.set_cons_zero, List.set_cons_succ]
      refine wpList_yield_w rfl _ (exec_move _ rfl) ?_
      simp only [Act.put, Act.eval, Array.getD_eq_getD_getElem?, List.getElem?_toArray, List.getElem?_cons_succ, List.getElem?_cons_zero, Option.getD_some, List.setIfInBounds_toArray, List.set_cons_zero, List.set_cons_succ]
      refine wpList_yield_w rfl ?vp142_66 ?yp142_66 ?_
      case yp142_66 => go_simp; try with_reducible rfl
      simp only [Act.put, List.setIfInBounds_toArray, List.set_cons_zero, List.set_cons_succ]
      refine wpList_yield rfl ?vp143_67 ?yp143_67 ?_
      case yp143_67 => go_simp; try with_reducible rfl
      simp only [Act.put, List.setIfInBounds_toArray, List.set_cons_zero, List.set_cons_succ]
      refine wpList_yield rfl _ (exec_move _ rfl) ?_
      simp only [Act.put, Act.eval, Array.getD_eq_getD_getElem?, List.getElem?_toArray, List.getElem?_cons_succ, List.getElem?_cons_zero, Option.getD_some, List.setIfInBounds_toArray, List.set_cons_zero, List.set_cons_succ]
      refine wpList_yield_w rfl _ (exec_move _ rfl) ?_
      simp only [Act.put, Act.eval, Array.getD_eq_getD_getElem?, List.getElem?_toArray, List.getElem?_cons_succ, List.getElem?_cons_zero, Option.getD_some, List.setIfInBounds_toArray, List.set_cons_zero, List.set_cons_succ]
      refine wpList_yield_w rfl ?vp144_70 ?yp144_70 ?_
      case yp144_70 => go_simp; try with_reducible rfl
      simp only [Act.put, List.setIfInBounds_toArray, List.set_cons_zero, List.set_cons_succ]
      refine wpList_yield rfl ?vp145_71 ?yp145_71 ?_
      case yp145_71 => go_simp; try with_reducible rfl
      simp only [Act.put, List.setIfInBounds_toArray, List.set_cons_zero, List.set_cons_succ]
      refine wpList_yield rfl _ (exec_assign _ rfl) ?_
      simp only [Act.put, Act.eval, Array.getD_eq_getD_getElem?, List.getElem?_toArray, List.getElem?_cons_succ, List.getElem?_cons_zero, Option.getD_some, List.setIfInBounds_toArray, List.set_cons_zero, List.set_cons_succ]
      refine wpList_nil ?_
      go_wp2_with fail
      go_ret
      exact ⟨rfl, bthen B32 (bthen V2 V3 V2.size) B32.size⟩
    · intro K hK
      refine wp_build_dig2 b a LB.out LA.out _ _ rfl rfl rfl ?_
      have n2 : Hl (wc.alloc (.cells (bvs (b ++ a)).toArray 25)) (some ⟨wc.heap.size, 0, none⟩) 2 2 [b, a] := hl_two (Blk.new _ _ _) LB.out LA.out
      have hS := hS.alloc hS.size (.cells (bvs (b ++ a)).toArray 25)
      refine hK _ _ (fun _ => hS) ?_; clear hK
      generalize wc.heap.size = gq at *
      generalize World.alloc wc _ = wc at *
      refine rg_more [7, 12, 13, 14, 15] 0 (by kernel_rfl) ?_
      simp only [pick, List.map_cons, List.map_nil, List.getD_cons_zero, List.getD_cons_succ]
      refine rg_one rfl rfl ?_; intro K hK; go_simp
      with_reducible refine (FI _).out.mono ?_
      rintro e1 wc ⟨rfl, hn⟩
      have hS := hS.trans (hn.mono hS.size)
      (try have n2 := n2.below hn)
      (try have n1 := n1.below hn)
      refine hK _ _ (fun _ => hS) ?_; clear hK hn
      refine rg_one rfl rfl ?_; intro K hK; go_simp
      with_reducible refine (CX _ _ n2).out.mono ?_
      rintro e1 wc ⟨rfl, hn⟩
      have hS := hS.trans (hn.mono hS.size)
      (try have n2 := n2.below hn)
      (try have n1 := n1.below hn)
      refine hK _ _ (fun _ => hS) ?_; clear hK hn
      refine rg_take (v := ?v28_13) rfl rfl hS ?y28_13 ?_
      case y28_13 => intro W hW; (try subst hW); go_simp; try with_reducible rfl
      simp only [Act.put, List.setIfInBounds_toArray, List.set_cons_zero, List.set_cons_succ]
      refine rg_take (v := ?v28_14) rfl rfl hS ?y28_14 ?_
      case y28_14 => intro W hW; (try subst hW); go_simp; try with_reducible rfl
      simp only [Act.put, List.setIfInBounds_toArray, List.set_cons_zero, List.set_cons_succ]
      refine rg_take (v := ?v28_15) rfl rfl hS ?y28_15 ?_
      case y28_15 => intro W hW; (try subst hW); go_simp; try with_reducible rfl
      simp only [Act.put, List.setIfInBounds_toArray, List.set_cons_zero, List.set_cons_succ]
      refine rg_done (by kernel_rfl) ?_
      have VV := hS
      clear hS n1 n2
      generalize wc = w22 at *
      have xa22 := xa21.below VV xa21.lt
      have xb22 := xb21.below VV xb21.lt
      have lg22 := lg21.below VV
      have xc22 := xc21.below VV xc21.lt
      have xd22 := xd21.below VV xd21.lt
      have yr22 := yr21.below VV
      have xe22 := xe21.below VV xe21.lt
      have B22 := bthen B21 VV B21.size
      clear xa21 xb21 lg21 xc21 xd21 yr21 xe21 B21 VV CK CX
      clear xe22
      go_upto_region 17 with fail
      refine wp_region_lit ?_
      refine wpList_yield rfl _ (exec_move _ rfl) ?_
      simp only [Act.put, Act.eval, Array.getD_eq_getD_getElem?, List.getElem?_toArray, List.getElem?_cons_succ, List.getElem?_cons_zero, Option.getD_some, List.setIfInBounds_toArray, List.set_cons_zero, List.set_cons_succ]
      refine wpList_yield rfl _ (exec_move _ rfl) ?_
      simp only [Act.put, Act.eval, Array.getD_eq_getD_getElem?, List.getElem?_toArray, List.getElem?_cons_succ, List.getElem?_cons_zero, Option.getD_some, List.setIfInBounds_toArray, List.set_cons_zero, List.set_cons_succ]
      refine wpList_plain rfl fun K hK => ?_; go_simp
      with_reducible refine (X1 RB rc w22 yr22).out.mono ?_
      rintro e1 w23 ⟨B1, k1, d1, B2, k2, d2, rfl, V23⟩
      refine hK _ _ ?_; clear hK
      (try simp only [Act.put, List.setIfInBounds_toArray, List.set_cons_zero, List.set_cons_succ])
      refine wpList_yield rfl _ (exec_move _ rfl) ?_
      simp only [Act.put, Act.eval, Array.getD_eq_getD_getElem?, List.getElem?_toArray, List.getElem?_cons_succ, List.getElem?_cons_zero, Option.getD_some, List.setIfInBounds_toArray, List.set_cons_zero, List.set_cons_succ]
      refine wpList_yield rfl ?vp146_4 ?yp146_4 ?_
      case yp146_4 => go_simp; try with_reducible rfl
      simp only [Act.put, List.setIfInBounds_toArray, List.set_cons_zero, List.set_cons_succ]
      refine wpList_yield rfl ?vp147_5 ?yp147_5 ?_
      case yp147_5 => go_simp; try with_reducible rfl
      simp only [Act.put, List.setIfInBounds_toArray, List.set_cons_zero, List.set_cons_succ]
      refine wpList_plain rfl fun K hK => ?_; go_simp
      refine hK _ _ ?_; clear hK
      (try simp only [Act.put, List.setIfInBounds_toArray, List.set_cons_zero, List.set_cons_succ])
      refine wpList_store_at at124.i rfl (.tmp 24) (.tmp 118) rfl w23.heap.size 0 124 [.slice none 0 0, .slice none 0 0] [.slice B1 k1 d1, .slice B2 k2 d2] rfl rfl (z124 w23).out rfl (Nat.le_refl 2) (by simp [Value.oneCell']) ?_
      intro w24 b24 g24 s24
      (try simp only [Act.put, List.setIfInBounds_toArray, List.set_cons_zero, List.set_cons_succ])
      refine wpList_yield rfl _ (exec_assign _ rfl) ?_
      simp only [Act.put, Act.eval, Array.getD_eq_getD_getElem?, List.getElem?_toArray, List.getElem?_cons_succ, List.getElem?_cons_zero, Option.getD_some, List.setIfInBounds_toArray, List.set_cons_zero, List.set_cons_succ]
      refine wpList_nil ?_
      have V24 : Below w22.heap.size w22 w24 := (V23.alloc V23.size (.cells #[.slice none 0 0, .slice none 0 0] 124)).grown g24 (by have := V23.size; simp; omega) (by intro k hk; cases hk; exact V23.size)
      have xa24 := xa22.below V24 xa22.lt
      have xb24 := xb22.below V24 xb22.lt
      have lg24 := lg22.below V24
      have xc24 := xc22.below V24 xc22.lt
      have xd24 := xd22.below V24 xd22.lt
      have yr24 := yr22.below V24
      have B24 := bthen B22 V24 B22.size
      clear xa22 xb22 lg22 xc22 xd22 yr22 B22 V24 V23 g24 s24 b24 X1
      generalize w23.heap.size = G24 at *
      have hrc := yr24.cap
      go_upto_region 18 with fail
      refine wp_region_lit ?_
      refine wpList_yield rfl _ (exec_move _ rfl) ?_
      simp only [Act.put, Act.eval, Array.getD_eq_getD_getElem?, List.getElem?_toArray, List.getElem?_cons_succ, List.getElem?_cons_zero, Option.getD_some, List.setIfInBounds_toArray, List.set_cons_zero, List.set_cons_succ]
      refine wpList_yield rfl _ (exec_move _ rfl) ?_
      simp only [Act.put, Act.eval, Array.getD_eq_getD_getElem?, List.getElem?_toArray, List.getElem?_cons_succ, List.getElem?_cons_zero, Option.getD_some, List.setIfInBounds_toArray, List.set_cons_zero, List.set_cons_succ]
      refine wpList_yield rfl _ (exec_slice_to st132 _ _ rfl RB 2 rc 1 .i64 rfl rfl (by omega)) ?_
      simp only [Act.put, List.setIfInBounds_toArray, List.set_cons_zero, List.set_cons_succ]
      refine wpList_plain rfl fun K hK => ?_; go_simp
      with_reducible refine (X2 RB rc w24 yr24).out.mono ?_
      rintro e1 w25 ⟨B1, k1, d1, B2, k2, d2, rfl, V25⟩
      refine hK _ _ ?_; clear hK
      (try simp only [Act.put, List.setIfInBounds_toArray, List.set_cons_zero, List.set_cons_succ])
      refine wpList_yield rfl _ (exec_move _ rfl) ?_
      simp only [Act.put, Act.eval, Array.getD_eq_getD_getElem?, List.getElem?_toArray, List.getElem?_cons_succ, List.getElem?_cons_zero, Option.getD_some, List.setIfInBounds_toArray, List.set_cons_zero, List.set_cons_succ]
      refine wpList_yield rfl ?vp148_5 ?yp148_5 ?_
      case yp148_5 => go_simp; try with_reducible rfl
      simp only [Act.put, List.setIfInBounds_toArray, List.set_cons_zero, List.set_cons_succ]
      refine wpList_yield rfl ?vp149_6 ?yp149_6 ?_
      case yp149_6 => go_simp; try with_reducible rfl
      simp only [Act.put, List.setIfInBounds_toArray, List.set_cons_zero, List.set_cons_succ]
      refine wpList_plain rfl fun K hK => ?_; go_simp
      refine hK _ _ ?_; clear hK
      (try simp only [Act.put, List.setIfInBounds_toArray, List.set_cons_zero, List.set_cons_succ])
      refine wpList_store_at at124.i rfl (.tmp 26) (.tmp 125) rfl w25.heap.size 0 124 [.slice none 0 0, .slice none 0 0] [.slice B1 k1 d1, .slice B2 k2 d2] rfl rfl (z124 w25).out rfl (Nat.le_refl 2) (by simp [Value.oneCell']) ?_
      intro w26 b26 g26 s26
      (try simp only [Act.put, List.setIfInBounds_toArray, List.set_cons_zero, List.set_cons_succ])
      refine wpList_yield rfl _ (exec_assign _ rfl) ?_
      simp only [Act.put, Act.eval, Array.getD_eq_getD_getElem?, List.getElem?_toArray, List.getElem?_cons_succ, List.getElem?_cons_zero, Option.getD_some, List.setIfInBounds_toArray, List.set_cons_zero, List.set_cons_succ]
      refine wpList_nil ?_
      have V26 : Below w24.heap.size w24 w26 := (V25.alloc V25.size (.cells #[.slice none 0 0, .slice none 0 0] 124)).grown g26 (by have := V25.size; simp; omega) (by intro k hk; cases hk; exact V25.size)
      have xa26 := xa24.below V26 xa24.lt
      have xb26 := xb24.below V26 xb24.lt
      have lg26 := lg24.below V26
      have xc26 := xc24.below V26 xc24.lt
      have xd26 := xd24.below V26 xd24.lt
      have yr26 := yr24.below V26
      have B26 := bthen B24 V26 B24.size
      clear xa24 xb24 lg24 xc24 xd24 yr24 B24 V26 V25 g26 s26 b26 X2
      generalize w25.heap.size = G26 at *
      go_upto_region 19 with fail
      refine wp_region_lit ?_
      refine wpList_make_digs rfl _ _ rfl 4096 rfl rfl (by omega) ?_
      intro w27 m27 V27
      rw [HM.out] at m27
      (try simp only [Act.put, List.setIfInBounds_toArray, List.set_cons_zero, List.set_cons_succ])
      refine wpList_plain rfl fun K hK => ?_; go_simp
      with_reducible refine (FU _ _ m27).out.mono ?_
      rintro e1 w28 ⟨gf, Sf, rfl, lgf28, V28⟩
      refine hK _ _ ?_; clear hK
      (try simp only [Act.put, List.setIfInBounds_toArray, List.set_cons_zero, List.set_cons_succ])
      refine wpList_yield rfl _ (exec_move _ rfl) ?_
      simp only [Act.put, Act.eval, Array.getD_eq_getD_getElem?, List.getElem?_toArray, List.getElem?_cons_succ, List.getElem?_cons_zero, Option.getD_some, List.setIfInBounds_toArray, List.set_cons_zero, List.set_cons_succ]
      refine wpList_yield rfl ?vp150_3 ?yp150_3 ?_
      case yp150_3 => go_simp; try with_reducible rfl
      simp only [Act.put, List.setIfInBounds_toArray, List.set_cons_zero, List.set_cons_succ]
      refine wpList_yield rfl ?vp151_4 ?yp151_4 ?_
      case yp151_4 => go_simp; try with_reducible rfl
      simp only [Act.put, List.setIfInBounds_toArray, List.set_cons_zero, List.set_cons_succ]
      refine wpList_yield rfl _ (exec_assign _ rfl) ?_
      simp only [Act.put, Act.eval, Array.getD_eq_getD_getElem?, List.getElem?_toArray, List.getElem?_cons_succ, List.getElem?_cons_zero, Option.getD_some, List.setIfInBounds_toArray, List.set_cons_zero, List.set_cons_succ]
      refine wpList_yield rfl _ (exec_assign _ rfl) ?_
      simp only [Act.put, Act.eval, Array.getD_eq_getD_getElem?, List.getElem?_toArray, List.getElem?_cons_succ, List.getElem?_cons_zero, Option.getD_some, List.setIfInBounds_toArray, List.set_cons_zero, List.set_cons_succ]
      refine wpList_nil ?_
      have V28 := bthen V27 V28 V27.size
      have xa28 := xa26.below V28 xa26.lt
      have xb28 := xb26.below V28 xb26.lt
      have lg28 := lg26.below V28
      have xc28 := xc26.below V28 xc26.lt
      have xd28 := xd26.below V28 xd26.lt
      have yr28 := yr26.below V28
      have B28 := bthen B26 V28 B26.size
      clear xa26 xb26 lg26 xc26 xd26 yr26 B26 V28 V27 m27 FU HM
      go_upto_region 20 with fail
      refine wp_region_lit ?_
      refine wpList_yield rfl _ (exec_move _ rfl) ?_
      simp only [Act.put, Act.eval, Array.getD_eq_getD_getElem?, List.getElem?_toArray, List.getElem?_cons_succ, List.getElem?_cons_zero, Option.getD_some, List.setIfInBounds_toArray, List.set_cons_zero, List.set_cons_succ]
      refine wpList_yield rfl _ (exec_load_agg at25w (.tmp 1) rfl ga 25 (bvs a) rfl xa28 (by rw [bvs_length]; exact LA.out)) ?_
      simp only [Act.put, List.setIfInBounds_toArray, List.set_cons_zero, List.set_cons_succ]
      refine wpList_plain rfl fun K hK => ?_; go_simp
      with_reducible refine (AD Sf gf w28 lgf28).out.mono ?_
      rintro e1 w29 ⟨rfl, V29⟩
      refine hK _ _ ?_; clear hK
      (try simp only [Act.put, List.setIfInBounds_toArray, List.set_cons_zero, List.set_cons_succ])
      refine wpList_yield rfl _ (exec_move _ rfl) ?_
      simp only [Act.put, Act.eval, Array.getD_eq_getD_getElem?, List.getElem?_toArray, List.getElem?_cons_succ, List.getElem?_cons_zero, Option.getD_some, List.setIfInBounds_toArray, List.set_cons_zero, List.set_cons_succ]
      refine wpList_yield rfl ?vp152_4 ?yp152_4 ?_
      case yp152_4 => go_simp; try with_reducible rfl
      simp only [Act.put, List.setIfInBounds_toArray, List.set_cons_zero, List.set_cons_succ]
      refine wpList_yield rfl ?vp153_5 ?yp153_5 ?_
      case yp153_5 => go_simp; try with_reducible rfl
      simp only [Act.put, List.setIfInBounds_toArray, List.set_cons_zero, List.set_cons_succ]
      refine wpList_yield rfl _ (exec_assign _ rfl) ?_
      simp only [Act.put, Act.eval, Array.getD_eq_getD_getElem?, List.getElem?_toArray, List.getElem?_cons_succ, List.getElem?_cons_zero, Option.getD_some, List.setIfInBounds_toArray, List.set_cons_zero, List.set_cons_succ]
      refine wpList_yield rfl _ (exec_assign _ rfl) ?_
      simp only [Act.put, Act.eval, Array.getD_eq_getD_getElem?, List.getElem?_toArray, List.getElem?_cons_succ, List.getElem?_cons_zero, Option.getD_some, List.setIfInBounds_toArray, List.set_cons_zero, List.set_cons_succ]
      refine wpList_nil ?_
      have xa29 := xa28.below V29 xa28.lt
      have xb29 := xb28.below V29 xb28.lt
      have lg29 := lg28.below V29
      have xc29 := xc28.below V29 xc28.lt
      have xd29 := xd28.below V29 xd28.lt
      have yr29 := yr28.below V29
      have lgf29 := lgf28.below V29
      have B29 := bthen B28 V29 B28.size
      clear xa28 xb28 lg28 xc28 xd28 yr28 lgf28 B28 V29 AD
      clear lgf29
      clear lg29
      go_upto_region 21 with fail
      refine wp_region_lit ?_
      refine wpList_plain rfl fun K hK => ?_; go_simp
      refine hK _ _ ?_; clear hK
      (try simp only [Act.put, List.setIfInBounds_toArray, List.set_cons_zero, List.set_cons_succ])
      refine wpList_plain rfl fun K hK => ?_; go_simp
      with_reducible refine (SF _ _ (tx_one 4 (.int .u8 4) rfl w29)).out.mono ?_
      rintro e1 w30 ⟨rfl, V30⟩
      have V30 : Below w29.heap.size w29 w30 := ((Below.refl _ _).alloc (Nat.le_refl _) _).trans (V30.mono (by simp))
      refine hK _ _ ?_; clear hK
      (try simp only [Act.put, List.setIfInBounds_toArray, List.set_cons_zero, List.set_cons_succ])
      refine wpList_plain rfl fun K hK => ?_; go_simp
      refine hK _ _ ?_; clear hK
      (try simp only [Act.put, List.setIfInBounds_toArray, List.set_cons_zero, List.set_cons_succ])
      refine wpList_store_at at25w.i rfl (.tmp 32) (.tmp 139) rfl w30.heap.size 0 25 (bvs (zb 32)) (bvs FH) rfl rfl (z25 w30).out (by rw [bvs_length]; exact LF.out) (by rw [bvs_length, zb_length]; omega) (bvs_one _) ?_
      intro w31 xf31 g31 s31
      (try simp only [Act.put, List.setIfInBounds_toArray, List.set_cons_zero, List.set_cons_succ])
      refine wpList_nil ?_
      rw [splice_all _ _ (by rw [bvs_length, bvs_length, zb_length]; exact LF.out.symm)] at xf31
      have V31 : Below w29.heap.size w29 w31 := (V30.alloc V30.size (.cells (bvs (zb 32)).toArray 25)).grown g31 (by have := V30.size; simp; omega) (by intro k hk; cases hk; exact V30.size)
      have xa31 := xa29.below V31 xa29.lt
      have xb31 := xb29.below V31 xb29.lt
      have xc31 := xc29.below V31 xc29.lt
      have xd31 := xd29.below V31 xd29.lt
      have yr31 := yr29.below V31
      have B31 := bthen B29 V31 B29.size
      clear xa29 xb29 xc29 xd29 yr29 B29 V31 V30 g31 s31 SF
      generalize w30.heap.size = G32 at *
      have hB0 := B31.size
      go_upto_region 22 with fail
      refine rg_begin (Below w31.heap.size w31) [] [0, 5, 7, 9, 10] [1, 0, 2, 3, 4, 6, 8, 5, 7, 9, 10, 11, 12, 13] 0 mixed (by kernel_rfl) (fun _ _ _ _ e hh => ⟨e.symm.trans hh.1, hh.2⟩) ?_
      simp only [pick, List.map_cons, List.map_nil, List.getD_cons_zero, List.getD_cons_succ]
      have hS : (Below w31.heap.size w31) _ := (Below.refl _ _).drew
      refine rg_take rfl rfl hS (fun W hW => exec_load_agg at25w (.tmp 32) rfl G32 25 (bvs FH) rfl (xf31.below hW xf31.lt) (by rw [bvs_length]; exact LF.out)) ?_
      simp only [Act.put, List.setIfInBounds_toArray, List.set_cons_zero, List.set_cons_succ]
      refine rg_one rfl rfl ?_; intro K hK; go_simp
      with_reducible refine (FI _).out.mono ?_
      rintro e1 u0 ⟨rfl, Vu0⟩
      have hS1 : Below w31.heap.size w31 u0 := Below.trans hS (Vu0.mono (Below.size hS))
      refine hK _ _ (fun _ => hS1) ?_; clear hK
      refine rg_take rfl rfl hS1 (fun W hW => exec_eql_same ab25 _ _ rfl FH rfl rfl LF.out) ?_
      simp only [Act.put, List.setIfInBounds_toArray, List.set_cons_zero, List.set_cons_succ]
      refine rg_take (v := ?v154_3) rfl rfl hS1 ?y154_3 ?_
      case y154_3 => intro W hW; (try subst hW); go_simp; try with_reducible rfl
      simp only [Act.put, List.setIfInBounds_toArray, List.set_cons_zero, List.set_cons_succ]
      refine rg_take rfl rfl hS1 (fun W hW => exec_load_agg at25w (.tmp 5) rfl G5 25 (bvs h1) rfl (xc31.below hW xc31.lt) (by rw [bvs_length]; exact L1.out)) ?_
      simp only [Act.put, List.setIfInBounds_toArray, List.set_cons_zero, List.set_cons_succ]
      refine rg_take rfl rfl hS1 (fun W hW => exec_arr_all ia25 _ rfl G32 0 rfl) ?_
      simp only [Act.put, List.setIfInBounds_toArray, List.set_cons_zero, List.set_cons_succ]
      refine rg_take rfl rfl hS1 (fun W hW => exec_arr_all ia25 _ rfl ga 0 rfl) ?_
      simp only [Act.put, List.setIfInBounds_toArray, List.set_cons_zero, List.set_cons_succ]
      refine rg_one rfl rfl ?_; intro K hK; go_simp
      have hS2 : Below w31.heap.size w31 (u0.alloc (.cells #[.int .u8 5] 5)) := hS1.alloc (Below.size hS1) _
      have o5 : OwnB (u0.alloc (.cells #[.int .u8 5] 5)) w31.heap.size 5 (.slice (some ⟨u0.heap.size, 0, none⟩) 1 1) [5] := own_one u0 5 (.int .u8 5) rfl (Below.size hS1)
      refine hK _ _ (fun _ => hS2) ?_; clear hK
      refine rg_one rfl rfl ?_; intro K hK
      refine wp_append_bytes bt (.tmp 145) (.tmp 146) rfl w31.heap.size _ [5] rfl o5 (some ⟨G32, 0, none⟩) 32 32 FH rfl LF.out (Rd.of_blk0 (es := []) (by simpa using xf31.below hS2 xf31.lt)) (by simp) (Below.size hS2) ?_
      intro q7 u7 o7 g7 h7
      have hS3 : Below w31.heap.size w31 u7 := hS2.grown g7 (Below.size hS2) (by intro k hk; exact (OwnB.lt o5 k hk).1)
      refine hK _ _ (fun _ => hS3) ?_; clear hK
      refine rg_one rfl rfl ?_; intro K hK
      refine wp_append_bytes bt (.tmp 147) (.tmp 148) rfl w31.heap.size _ ([5] ++ FH) rfl o7 (some ⟨ga, 0, none⟩) 32 32 a rfl LA.out (Rd.of_blk0 (es := []) (by simpa using xa31.below hS3 xa31.lt)) (by simp; have := LF.out; omega) (Below.size hS3) ?_
      intro q9 u9 o9 g9 h9
      have hS4 : Below w31.heap.size w31 u9 := hS3.grown g9 (Below.size hS3) (by intro k hk; exact (OwnB.lt o7 k hk).1)
      refine hK _ _ (fun _ => hS4) ?_; clear hK
      obtain ⟨A9, c9, rfl, t9a, t9b, t9⟩ := o9.rd
      have hn9 : ([5] ++ FH ++ a).length = 65 := by simp; rw [LF.out, LA.out]
      have t9x := Tx.mk_ rfl t9a t9b t9
      clear t9a t9b t9
      generalize ([5] ++ FH ++ a).length = n9 at *
      rw [show [5] ++ FH ++ a = 5 :: (FH ++ a) from rfl] at t9x
      subst hn9
      refine rg_one rfl rfl ?_; intro K hK; go_simp
      with_reducible refine (S1 _ _ _ _ t9x rfl).out.mono ?_
      rintro e1 u10 ⟨rfl, Vu10⟩
      have hS5 : Below w31.heap.size w31 u10 := Below.trans hS4 (Vu10.mono (Below.size hS4))
      refine hK _ _ (fun _ => hS5) ?_; clear hK
      refine rg_take rfl rfl hS5 (fun W hW => exec_eql_same ab25 _ _ rfl h1 rfl rfl L1.out) ?_
      simp only [Act.put, List.setIfInBounds_toArray, List.set_cons_zero, List.set_cons_succ]
      refine rg_take (v := ?v154_12) rfl rfl hS5 ?y154_12 ?_
      case y154_12 => intro W hW; (try subst hW); go_simp; try with_reducible rfl
      simp only [Act.put, List.setIfInBounds_toArray, List.set_cons_zero, List.set_cons_succ]
      refine rg_take (v := ?v154_13) rfl rfl hS5 ?y154_13 ?_
      case y154_13 => intro W hW; (try subst hW); go_simp; try with_reducible rfl
      simp only [Act.put, List.setIfInBounds_toArray, List.set_cons_zero, List.set_cons_succ]
      refine rg_done (by kernel_rfl) ?_
      have VV := hS5
      clear hS hS1 hS2 hS3 hS4 hS5 Vu0 Vu10 o5 o7 g7 g9 h7 h9
      
      generalize u10 = w32 at *
      have xa32 := xa31.below VV xa31.lt
      have xb32 := xb31.below VV xb31.lt
      have xc32 := xc31.below VV xc31.lt
      have xd32 := xd31.below VV xd31.lt
      have yr32 := yr31.below VV
      have xf32 := xf31.below VV xf31.lt
      have B32 := bthen B31 VV B31.size
      clear xa31 xb31 xc31 xd31 yr31 xf31 B31 VV S1 FI
      go_upto_region 23 with fail
      refine wp_region_lit ?_
      refine wpList_yield rfl _ (exec_move _ rfl) ?_
      simp only [Act.put, Act.eval, Array.getD_eq_getD_getElem?, List.getElem?_toArray, List.getElem?_cons_succ, List.getElem?_cons_zero, Option.getD_some, List.setIfInBounds_toArray, List.set_cons_zero, List.set_cons_succ]
      refine wpList_plain_w rfl fun K hK => ?_; go_simp
      with_reducible refine (AW _).out.mono ?_
      rintro e1 u1 ⟨rfl, V1⟩
      refine hK _ _ ?_; clear hK
      (try simp only [Act.put, List.setIfInBounds_toArray, List.set_cons_zero, List.set_cons_succ])
      refine wpList_yield rfl ?vp155_2 ?yp155_2 ?_
      case yp155_2 => go_simp; try with_reducible rfl
      simp only [Act.put, List.setIfInBounds_toArray, List.set_cons_zero, List.set_cons_succ]
      refine wpList_yield rfl _ (exec_move _ rfl) ?_
      simp only [Act.put, Act.eval, Array.getD_eq_getD_getElem?, List.getElem?_toArray, List.getElem?_cons_succ, List.getElem?_cons_zero, Option.getD_some, List.setIfInBounds_toArray, List.set_cons_zero, List.set_cons_succ]
      refine wpList_yield_w rfl _ (exec_move _ rfl) ?_
      simp only [Act.put, Act.eval, Array.getD_eq_getD_getElem?, List.getElem?_toArray, List.getElem?_cons_succ, List.getElem?_cons_zero, Option.getD_some, List.setIfInBounds_toArray, List.set_cons_zero, List.set_cons_succ]
      refine wpList_yield rfl ?vp156_5 ?yp156_5 ?_
      case yp156_5 => go_simp; try with_reducible rfl
      simp only [Act.put, List.setIfInBounds_toArray, List.set_cons_zero, List.set_cons_succ]
      refine wpList_yield rfl _ (exec_move _ rfl) ?_
      simp only [Act.put, Act.eval, Array.getD_eq_getD_getElem?, List.getElem?_toArray, List.getElem?_cons_succ, List.getElem?_cons_zero, Option.getD_some, List.setIfInBounds_toArray, List.set_cons_zero, List.set_cons_succ]
      refine wpList_yield_w rfl _ (exec_move _ rfl) ?_
      simp only [Act.put, Act.eval, Array.getD_eq_getD_getElem?, List.getElem?_toArray, List.getElem?_cons_succ, List.getElem?_cons_zero, Option.getD_some, List.setIfInBounds_toArray, List.set_cons_zero, List.set_cons_succ]
      refine wpList_yield_w rfl ?vp157_8 ?yp157_8 ?_
      case yp157_8 => go_simp; try with_reducible rfl
      simp only [Act.put, List.setIfInBounds_toArray, List.set_cons_zero, List.set_cons_succ]
      refine wpList_yield rfl ?vp158_9 ?yp158_9 ?_
      case yp158_9 => go_simp; try with_reducible rfl
      simp only [Act.put, List.setIfInBounds_toArray, List.set_cons_zero, List.set_cons_succ]
      refine wpList_yield rfl _ (exec_move _ rfl) ?_
      simp only [Act.put, Act.eval, Array.getD_eq_getD_getElem?, List.getElem?_toArray, List.getElem?_cons_succ, List.getElem?_cons_zero, Option.getD_some, List.setIfInBounds_toArray, List.set_cons_zero, List.set_cons_succ]
      refine wpList_yield_w rfl _ (exec_load_agg at25w (.tmp 7) rfl G7 25 (bvs b) rfl (xd32.below V1 xd32.lt) (by rw [bvs_length]; exact LB.out)) ?_
      simp only [Act.put, List.setIfInBounds_toArray, List.set_cons_zero, List.set_cons_succ]
      refine wpList_yield_w rfl _ (exec_load_agg at25w (.tmp 2) rfl gb 25 (bvs b) rfl (xb32.below V1 xb32.lt) (by rw [bvs_length]; exact LB.out)) ?_
      simp only [Act.put, List.setIfInBounds_toArray, List.set_cons_zero, List.set_cons_succ]
      refine wpList_yield_w rfl _ (exec_eql_same ab25 _ _ rfl b rfl rfl LB.out) ?_
      simp only [Act.put, List.setIfInBounds_toArray, List.set_cons_zero, List.set_cons_succ]
      refine wpList_yield rfl ?vp159_14 ?yp159_14 ?_
      case yp159_14 => go_simp; try with_reducible rfl
      simp only [Act.put, List.setIfInBounds_toArray, List.set_cons_zero, List.set_cons_succ]
      refine wpList_yield rfl _ (exec_move _ rfl) ?_
      simp only [Act.put, Act.eval, Array.getD_eq_getD_getElem?, List.getElem?_toArray, List.getElem?_cons_succ, List.getElem?_cons_zero, Option.getD_some, List.setIfInBounds_toArray, List.set_cons_zero, List.set_cons_succ]
      refine wpList_yield_w rfl _ (exec_move _ rfl) ?_
      simp only [Act.put, Act.eval, Array.getD_eq_getD_getElem?, List.getElem?_toArray, List.getElem?_cons_succ, List.getElem?_cons_zero, Option.getD_some, List.setIfInBounds_toArray, List.set_cons_zero, List.set_cons_succ]
      refine wpList_yield_w rfl ?vp160_17 ?yp160_17 ?_
      case yp160_17 => go_simp; try with_reducible rfl
      simp only [Act.put, List.setIfInBounds_toArray, List.set_cons_zero, List.set_cons_succ]
      refine wpList_yield rfl ?vp161_18 ?yp161_18 ?_
      case yp161_18 => go_simp; try with_reducible rfl
      simp only [Act.put, List.setIfInBounds_toArray, List.set_cons_zero, List.set_cons_succ]
      refine wpList_yield rfl _ (exec_move _ rfl) ?_
      simp only [Act.put, Act.eval, Array.getD_eq_getD_getElem?, List.getElem?_toArray, List.getElem?_cons_succ, List.getElem?_cons_zero, Option.getD_some, List.setIfInBounds_toArray, List.set_cons_zero, List.set_cons_succ]
      refine wpList_yield_w rfl _ (exec_move _ rfl) ?_
      simp only [Act.put, Act.eval, Array.getD_eq_getD_getElem?, List.getElem?_toArray, List.getElem?_cons_succ, List.getElem?_cons_zero, Option.getD_some, List.setIfInBounds_toArray, List.set_cons_zero, List.set_cons_succ]
      refine wpList_yield_w rfl ?vp162_21 ?yp162_21 ?_
      case yp162_21 => go_simp; try with_reducible rfl
      simp only [Act.put, List.setIfInBounds_toArray, List.set_cons_zero, List.set_cons_succ]
      refine wpList_yield rfl ?vp163_22 ?yp163_22 ?_
      case yp163_22 => go_simp; try with_reducible rfl
      simp only [Act.put, List.setIfInBounds_toArray, List.set_cons_zero, List.set_cons_succ]
      refine wpList_yield rfl _ (exec_move _ rfl) ?_
      simp only [Act.put, Act.eval, Array.getD_eq_getD_getElem?, List.getElem?_toArray, List.getElem?_cons_succ, List.getElem?_cons_zero, Option.getD_some, List.setIfInBounds_toArray, List.set_cons_zero, List.set_cons_succ]
      refine wpList_yield_w rfl _ (exec_move _ rfl) ?_
      simp only [Act.put, Act.eval, Array.getD_eq_getD_getElem?, List.getElem?_toArray, List.getElem?_cons_succ, List.getElem?_cons_zero, Option.getD_some, List.setIfInBounds_toArray, List.set_cons_zero, List.set_cons_succ]
      refine wpList_yield_w rfl ?vp164_25 ?yp164_25 ?_
      case yp164_25 => go_simp; try with_reducible rfl
      simp only [Act.put, List.setIfInBounds_toArray, List.set_cons_zero, List.set_cons_succ]
      refine wpList_yield rfl ?vp165_26 ?yp165_26 ?_
      case yp165_26 => go_simp; try with_reducible rfl
      simp only [Act.put, List.setIfInBounds_toArray, List.set_cons_zero, List.set_cons_succ]
      refine wpList_yield rfl _ (exec_move _ rfl) ?_
      simp only [Act.put, Act.eval, Array.getD_eq_getD_getElem?, List.getElem?_toArray, List.getElem?_cons_succ, List.getElem?_cons_zero, Option.getD_some, List.setIfInBounds_toArray, List.set_cons_zero, List.set_cons_succ]
      refine wpList_yield_w rfl _ (exec_move _ rfl) ?_
      simp only [Act.put, Act.eval, Array.getD_eq_getD_getElem?, List.getElem?_toArray, List.getElem?_cons_succ, List.getElem?_cons_zero, Option.getD_some, List.setIfInBounds_toArray, List.set_cons_zero, List.set_cons_succ]
      refine wpList_yield_w rfl _ (exec_load_agg at25w (.tmp 1) rfl ga 25 (bvs a) rfl (xa32.below V1 xa32.lt) (by rw [bvs_length]; exact LA.out)) ?_
      simp only [Act.put, List.setIfInBounds_toArray, List.set_cons_zero, List.set_cons_succ]
      refine wpList_yield_w rfl _ (exec_load_agg at25w (.tmp 2) rfl gb 25 (bvs b) rfl (xb32.below V1 xb32.lt) (by rw [bvs_length]; exact LB.out)) ?_
      simp only [Act.put, List.setIfInBounds_toArray, List.set_cons_zero, List.set_cons_succ]
      refine wpList_plain_w rfl fun K hK => ?_
      refine wp_build_dig2 a b LA.out LB.out _ _ rfl rfl rfl ?_
      have n1 : Hl (u1.alloc (.cells (bvs (a ++ b)).toArray 25)) (some ⟨u1.heap.size, 0, none⟩) 2 2 [a, b] := hl_two (Blk.new _ _ _) LA.out LB.out
      have V2 : Below w32.heap.size w32 (u1.alloc (.cells (bvs (a ++ b)).toArray 25)) := V1.alloc V1.size _
      refine hK _ _ ?_; clear hK
      (try simp only [Act.put, List.setIfInBounds_toArray, List.set_cons_zero, List.set_cons_succ])
      refine wpList_plain_w rfl fun K hK => ?_; go_simp
      with_reducible refine (SM _ _ _ _ (yr32.below V2) n1).out.mono ?_
      rintro e1 u2 ⟨rfl, V3⟩
      refine hK _ _ ?_; clear hK
      (try simp only [Act.put, List.setIfInBounds_toArray, List.set_cons_zero, List.set_cons_succ])
      refine wpList_yield rfl ?vp166_33 ?yp166_33 ?_
      case yp166_33 => go_simp; try with_reducible rfl
      simp only [Act.put, List.setIfInBounds_toArray, List.set_cons_zero, List.set_cons_succ]
      refine wpList_yield rfl _ (exec_move _ rfl) ?_
      simp only [Act.put, Act.eval, Array.getD_eq_getD_getElem?, List.getElem?_toArray, List.getElem?_cons_succ, List.getElem?_cons_zero, Option.getD_some, List.setIfInBounds_toArray, List.set_cons_zero, List.set_cons_succ]
      refine wpList_yield_w rfl _ (exec_move _ rfl) ?_
      simp only [Act.put, Act.eval, Array.getD_eq_getD_getElem?, List.getElem?_toArray, List.getElem?_cons_succ, List.getElem?_cons_zero, Option.getD_some, List.setIfInBounds_toArray, List.set_cons_zero, List.set_cons_succ]
      refine wpList_yield_w rfl ?vp167_36 ?yp167_36 ?_
      case yp167_36 => go_simp; try with_reducible rfl
      simp only [Act.put, List.setIfInBounds_toArray, List.set_cons_zero, List.set_cons_succ]
      refine wpList_yield rfl ?vp168_37 ?yp168_37 ?_
      case yp168_37 => go_simp; try with_reducible rfl
      simp only [Act.put, List.setIfInBounds_toArray, List.set_cons_zero, List.set_cons_succ]
      refine wpList_yield rfl _ (exec_move _ rfl) ?_
      simp only [Act.put, Act.eval, Array.getD_eq_getD_getElem?, List.getElem?_toArray, List.getElem?_cons_succ, List.getElem?_cons_zero, Option.getD_some, List.setIfInBounds_toArray, List.set_cons_zero, List.set_cons_succ]
      refine wpList_yield_w rfl _ (exec_move _ rfl) ?_
      simp only [Act.put, Act.eval, Array.getD_eq_getD_getElem?, List.getElem?_toArray, List.getElem?_cons_succ, List.getElem?_cons_zero, Option.getD_some, List.setIfInBounds_toArray, List.set_cons_zero, List.set_cons_succ]
      refine wpList_yield_w rfl ?vp169_40 ?yp169_40 ?_
      case yp169_40 => go_simp; try with_reducible rfl
      simp only [Act.put, List.setIfInBounds_toArray, List.set_cons_zero, List.set_cons_succ]
      refine wpList_yield rfl ?vp170_41 ?yp170_41 ?_
      case yp170_41 => go_simp; try with_reducible rfl
      simp only [Act.put, List.setIfInBounds_toArray, List.set_cons_zero, List.set_cons_succ]
      refine wpList_yield rfl _ (exec_move _ rfl) ?_
      simp only [Act.put, Act.eval, Array.getD_eq_getD_getElem?, List.getElem?_toArray, List.getElem?_cons_succ, List.getElem?_cons_zero, Option.getD_some, List.setIfInBounds_toArray, List.set_cons_zero, List.set_cons_succ]
      refine wpList_yield_w rfl _ (exec_move _ rfl) ?_
      simp only [Act.put, Act.eval, Array.getD_eq_getD_getElem?, List.getElem?_toArray, List.getElem?_cons_succ, List.getElem?_cons_zero, Option.getD_some, List.setIfInBounds_toArray, List.set_cons_zero, List.set_cons_succ]
      refine wpList_yield_w rfl ?vp171_44 ?yp171_44 ?_
      case yp171_44 => go_simp; try with_reducible rfl
      simp only [Act.put, List.setIfInBounds_toArray, List.set_cons_zero, List.set_cons_succ]
      refine wpList_yield rfl ?vp172_45 ?yp172_45 ?_
      case yp172_45 => go_simp; try with_reducible rfl
      simp only [Act.put, List.setIfInBounds_toArray, List.set_cons_zero, List.set_cons_succ]
      refine wpList_yield rfl _ (exec_move _ rfl) ?_
      simp only [Act.put, Act.eval, Array.getD_eq_getD_getElem?, List.getElem?_toArray, List.getElem?_cons_succ, List.getElem?_cons_zero, Option.getD_some, List.setIfInBounds_toArray, List.set_cons_zero, List.set_cons_succ]
      refine wpList_yield_w rfl _ (exec_move _ rfl) ?_
      simp only [Act.put, Act.eval, Array.getD_eq_getD_getElem?, List.getElem?_toArray, List.getElem?_cons_succ, List.getElem?_cons_zero, Option.getD_some, List.setIfInBounds_toArray, List.set_cons_zero, List.set_cons_succ]
      refine wpList_yield rfl ?vp173_48 ?yp173_48 ?_
      case yp173_48 => go_simp; try with_reducible rfl
      simp only [Act.put, List.setIfInBounds_toArray, List.set_cons_zero, List.set_cons_succ]
      refine wpList_yield rfl _ (exec_move _ rfl) ?_
      simp only [Act.put, Act.eval, Array.getD_eq_getD_getElem?, List.getElem?_toArray, List.getElem?_cons_succ, List.getElem?_cons_zero, Option.getD_some, List.setIfInBounds_toArray, List.set_cons_zero, List.set_cons_succ]
      refine wpList_yield_w rfl _ (exec_move _ rfl) ?_
      simp only [Act.put, Act.eval, Array.getD_eq_getD_getElem?, List.getElem?_toArray, List.getElem?_cons_succ, List.getElem?_cons_zero, Option.getD_some, List.setIfInBounds_toArray, List.set_cons_zero, List.set_cons_succ]
      refine wpList_yield_w rfl ?vp174_51 ?yp174_51 ?_
      case yp174_51 => go_simp; try with_reducible rfl
      simp only [Act.put, List.setIfInBounds_toArray, List.set_cons_zero, List.set_cons_succ]
      refine wpList_yield rfl ?vp175_52 ?yp175_52 ?_
      case yp175_52 => go_simp; try with_reducible rfl
      simp only [Act.put, List.setIfInBounds_toArray, List.set_cons_zero, List.set_cons_succ]
      refine wpList_yield rfl _ (exec_move _ rfl) ?_
      simp only [Act.put, Act.eval, Array.getD_eq_getD_getElem?, List.getElem?_toArray, List.getElem?_cons_succ, List.getElem?_cons_zero, Option.getD_some, List.setIfInBounds_toArray, List.set_cons_zero, List.set_cons_succ]
      refine wpList_yield_w rfl _ (exec_move _ rfl) ?_
      simp only [Act.put, Act.eval, Array.getD_eq_getD_getElem?, List.getElem?_toArray, List.getElem?_cons_succ, List.getElem?_cons_zero, Option.getD_some, List.setIfInBounds_toArray, List.set_cons_zero, List.set_cons_succ]
      refine wpList_yield rfl ?vp176_55 ?yp176_55 ?_
      case yp176_55 => go_simp; try with_reducible rfl
      simp only [Act.put, List.setIfInBounds_toArray, List.set_cons_zero, List.set_cons_succ]
      refine wpList_yield rfl _ (exec_move _ rfl) ?_
      simp only [Act.put, Act.eval, Array.getD_eq_getD_getElem?, List.getElem?_toArray, List.getElem?_cons_succ, List.getElem?_cons_zero, Option.getD_some, List.setIfInBounds_toArray, List.set_cons_zero, List.set_cons_succ]
      refine wpList_yield_w rfl _ (exec_move _ rfl) ?_
      simp only [Act.put, Act.eval, Array.getD_eq_getD_getElem?, List.getElem?_toArray, List.getElem?_cons_succ, List.getElem?_cons_zero, Option.getD_some, List.setIfInBounds_toArray, List.set_cons_zero, List.set_cons_succ]
      refine wpList_yield_w rfl ?vp177_58 ?yp177_58 ?_
      case yp177_58 => go_simp; try with_reducible rfl
      simp only [Act.put, List.setIfInBounds_toArray, List.set_cons_zero, List.set_cons_succ]
      refine wpList_yield rfl ?vp178_59 ?yp178_59 ?_
      case yp178_59 => go_simp; try with_reducible rfl
      simp only [Act.put, List.setIfInBounds_toArray, List.set_cons_zero, List.set_cons_succ]
      refine wpList_yield rfl _ (exec_move _ rfl) ?_
      simp only [Act.put, Act.eval, Array.getD_eq_getD_getElem?, List.getElem?_toArray, List.getElem?_cons_succ, List.getElem?_cons_zero, Option.getD_some, List.setIfInBounds_toArray, List.set_cons_zero, List.set_cons_succ]
      refine wpList_yield_w rfl _ (exec_move _ rfl) ?_
      simp only [Act.put, Act.eval, Array.getD_eq_getD_getElem?, List.getElem?_toArray, List.getElem?_cons_succ, List.getElem?_cons_zero, Option.getD_some, List.setIfInBounds_toArray, List.set_cons_zero, List.set_cons_succ]
      refine wpList_yield_w rfl ?vp179_62 ?yp179_62 ?_
      case yp179_62 => go_simp; try with_reducible rfl
      simp only [Act.put, List.setIfInBounds_toArray, List.set_cons_zero, List.set_cons_succ]
      refine wpList_yield rfl ?vp180_63 ?yp180_63 ?_
      case yp180_63 => go_simp; try with_reducible rfl
      simp only [Act.put, List.setIfInBounds_toArray, List.set_cons_zero, List.set_cons_succ]
      refine wpList_yield rfl _ (exec_move _ rfl) ?_
      simp only [Act.put, Act.eval, Array.getD_eq_getD_getElem?, List.getElem?_toArray, List.getElem?_cons_succ, List.getElem?_cons_zero, Option.getD_some, List.setIfInBounds_toArray, List.set_cons_zero, List.set_cons_succ]
      refine wpList_yield_w rfl _ (exec_move _ rfl) ?_
      simp only [Act.put, Act.eval, Array.getD_eq_getD_getElem?, List.getElem?_toArray, List.getElem?_cons_succ, List.getElem?_cons_zero, Option.getD_some, List.setIfInBounds_toArray, List.set_cons_zero, List.set_cons_succ]
      refine wpList_yield_w rfl ?vp181_66 ?yp181_66 ?_
      case yp181_66 => go_simp; try with_reducible rfl
      simp only [Act.put, List.setIfInBounds_toArray, List.set_cons_zero, List.set_cons_succ]
      refine wpList_yield rfl ?vp182_67 ?yp182_67 ?_
      case yp182_67 => go_simp; try with_reducible rfl
      simp only [Act.put, List.setIfInBounds_toArray, List.set_cons_zero, List.set_cons_succ]
      refine wpList_yield rfl _ (exec_move _ rfl) ?_
      simp only [Act.put, Act.eval, Array.getD_eq_getD_getElem?, List.getElem?_toArray, List.getElem?_cons_succ, List.getElem?_cons_zero, Option.getD_some, List.setIfInBounds_toArray, List.set_cons_zero, List.set_cons_succ]
      refine wpList_yield_w rfl _ (exec_move _ rfl) ?_
      simp only [Act.put, Act.eval, Array.getD_eq_getD_getElem?, List.getElem?_toArray, List.getElem?_cons_succ, List.getElem?_cons_zero, Option.getD_some, List.setIfInBounds_toArray, List.set_cons_zero, List.set_cons_succ]
      refine wpList_yield_w rfl ?vp183_70 ?yp183_70 ?_
      case yp183_70 => go_simp; try with_reducible rfl
      simp only [Act.put, List.setIfInBounds_toArray, List.set_cons_zero, List.set_cons_succ]
      refine wpList_yield rfl ?vp184_71 ?yp184_71 ?_
      case yp184_71 => go_simp; try with_reducible rfl
      simp only [Act.put, List.setIfInBounds_toArray, List.set_cons_zero, List.set_cons_succ]
      refine wpList_yield rfl _ (exec_assign _ rfl) ?_
      simp only [Act.put, Act.eval, Array.getD_eq_getD_getElem?, List.getElem?_toArray, List.getElem?_cons_succ, List.getElem?_cons_zero, Option.getD_some, List.setIfInBounds_toArray, List.set_cons_zero, List.set_cons_succ]
      refine wpList_nil ?_
      go_wp2_with fail
      go_ret
      exact ⟨rfl, bthen B32 (bthen V2 V3 V2.size) B32.size⟩
end Go.Proofs.Ytehbahobkgoapaa
