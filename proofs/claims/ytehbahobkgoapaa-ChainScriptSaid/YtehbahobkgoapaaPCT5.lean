
import Derived.Test.YtehbahobkgoapaaPCT4
namespace Go.Proofs.Ytehbahobkgoapaa
open Go Go.RowKit
set_option linter.unusedSimpArgs false
set_option linter.unusedVariables false
theorem sz141 : (Try.prog.info? 141).map (·.size) = some 35 := by kernel_rfl
theorem own_over {w : World} {base n c : Nat} {A : Option Addr} {xs : List Value} (h : w.ownsRow base 25 32 (.slice A n c) n xs) : 0 < n → ∃ gx cs, A = some ⟨gx, 0, none⟩ ∧ Blk w gx 25 cs ∧ n * 32 ≤ cs.length ∧ base ≤ gx := by
  intro h0
  obtain ⟨_, h⟩ := h
  rcases h with ⟨e, _⟩ | ⟨g', cap, cur, e, hg, hc, hn, hm, hs, ht⟩
  · injection e with e1 e2 e3; omega
  · injection e with e1 e2 e3
    exact ⟨g', cur.toList, e1, by simpa [Blk] using hc, by simp [hs]; exact Nat.mul_le_mul_right _ hn, hg⟩
theorem made_lr {S : Nat → Prop} {wr w7 : World} {A : Option Addr} {n c : Nat} {ls : List (List UInt8)} (o : w7.ownsRow wr.heap.size 25 32 (.slice A n c) n (bvs ls.flatten)) (V : Below wr.heap.size wr w7) (hl : ls.length = n) (he : ∀ l ∈ ls, l.length = 32) (hn : n ≤ 4096) :
    ∃ T, Lr T (w7.alloc (.cells #[.slice A n c] 152)) w7.heap.size ls ∧ ∀ k, T k → wr.heap.size ≤ k := by
  have hb8 : Blk (w7.alloc (.cells #[.slice A n c] 152)) w7.heap.size 152 [.slice A n c] := Blk.new w7 152 [.slice A n c]
  have o8 := ownsRow_below o ((Below.refl w7.heap.size w7).alloc (Nat.le_refl _) (.cells #[.slice A n c] 152))
  have hge : ∀ k, (Value.slice A n c).ownBlock = some k → wr.heap.size ≤ k := by
    intro k hk
    obtain ⟨h, _⟩ := ownsRow_blk o hk
    exact h
  refine ⟨fun k => k = w7.heap.size ∨ (Value.slice A n c).ownBlock = some k, ⟨_, hb8, ?_, fun k e => .inr e, .inl rfl, ?_, he, by omega⟩, ?_⟩
  · rw [hl]
    obtain ⟨h, h'⟩ := o8
    refine ⟨h, ?_⟩
    rcases h' with h' | ⟨g, cap, cur, e, hg, h'⟩
    · exact .inl h'
    · exact .inr ⟨g, cap, cur, e, Nat.zero_le _, h'⟩
  · intro k hk
    rcases hk with rfl | hk
    · simp
    · obtain ⟨_, ds, hd⟩ := ownsRow_blk o8 hk
      exact hd.lt
  · intro k hk
    rcases hk with rfl | hk
    · exact V.size
    · exact hge k hk
/-- While the script runs: two logs of the same roots. -/
def ScrS (w : World) (g G j : Nat) (wr : World) : Prop := ∃ S T rs, Twin S T wr g G rs ∧ (∀ k, S k → w.heap.size ≤ k) ∧ (∀ k, T k → w.heap.size ≤ k) ∧ rs.length ≤ 60 + j ∧ Below w.heap.size w wr
theorem ScrS.step {S T : Nat → Prop} {w wr w' : World} {g G j : Nat} {rs : List (List UInt8)} (hS : ∀ k, S k → w.heap.size ≤ k) (hT : ∀ k, T k → w.heap.size ≤ k) (hl : rs.length ≤ 60 + j) (hb : Below w.heap.size w wr) (h : ActS S T g G rs wr w') : ScrS w g G (j + 1) w' := by
  obtain ⟨S', T', rs', h1, h2, h3, h4, h5⟩ := h
  have hz := hb.size
  refine ⟨S', T', rs', h1, fun k s => ?_, fun k s => ?_, by omega, below_fr hb h5 hz (fun k s => s.elim (hS k) (hT k))⟩
  · rcases h2 k s with a | a
    · exact hS k a
    · omega
  · rcases h3 k s with a | a
    · exact hT k a
    · omega
set_option maxRecDepth 100000 in
set_option maxHeartbeats 8000000 in
theorem chain_script (A : Option Addr) (n c : Nat) (ls : List (List UInt8)) (M : Option Addr) (m e' : Nat) (xs : List LAct) (w : World) (h1 : Hl w A n c ls) (h2 : LActs w M m xs) :
    Calls Try.prog 22 #[.slice A n c, .slice M m e'] w fun e w' => e = .returned (.bool true) ∧ Below w.heap.size w w' := by
  have hnm : n ≤ maxLen := Nat.le_trans h1.cap h1.max
  unfold maxLen at hnm
  have hmm := h2.max
  by_cases q1 : 60 < n ∧ n ≤ 4096
  · have z1 : (60 : Int) < (n : Int) := by omega
    have z2 : (n : Int) ≤ (4096 : Int) := by omega
    clear q1 h1 h2
    go_enter Try.func22, Try.ntmps22
    go_wp2_with fail
    go_ret
    exact ⟨rfl, Below.refl _ _⟩
  by_cases q2 : 4099 < n
  · have z1 : (60 : Int) < (n : Int) := by omega
    have z2 : ¬ (n : Int) ≤ (4096 : Int) := by omega
    have z3 : (4099 : Int) < (n : Int) := by omega
    clear q1 q2 h1 h2
    go_enter Try.func22, Try.ntmps22
    go_wp2_with fail
    go_ret
    exact ⟨rfl, Below.refl _ _⟩
  by_cases q3 : 60 < m
  · have z4 : (60 : Int) < (m : Int) := by omega
    have z3 : ¬ (4099 : Int) < (n : Int) := by omega
    clear h1 h2
    by_cases q4 : 60 < n
    · have z1 : (60 : Int) < (n : Int) := by omega
      have z2 : ¬ (n : Int) ≤ (4096 : Int) := by omega
      clear q1 q2 q3 q4
      go_enter Try.func22, Try.ntmps22
      go_wp2_with fail
      go_ret
      exact ⟨rfl, Below.refl _ _⟩
    · have z1 : ¬ (60 : Int) < (n : Int) := by omega
      clear q1 q2 q3 q4
      go_enter Try.func22, Try.ntmps22
      go_wp2_with fail
      go_ret
      exact ⟨rfl, Below.refl _ _⟩
  have z4 : ¬ (60 : Int) < (m : Int) := by omega
  have z3 : ¬ (4099 : Int) < (n : Int) := by omega
  have CH := fun (u : World) (q : Hl u A n c ls) => Lib.hid (copyH_any A n c ls u q (by omega))
  have SM := fun (B : Option Addr) (d : Nat) (u : World) (x : Hl u B n d ls) (y : Hl u A n c ls) => Lib.hid (sameL111 B n d ls A n c ls u x y true (by simp))
  have OW := fun (u : World) (b : Nat) (v : Value) (q : u.ownsRow b 25 32 v n (bvs ls.flatten)) => Lib.hid (own_hl q h1.len h1.each)
  by_cases q4 : 60 < n
  · have z1 : (60 : Int) < (n : Int) := by omega
    have z2 : ¬ (n : Int) ≤ (4096 : Int) := by omega
    have z5 : (4096 : Int) < (n : Int) := by omega
    have FL := fun (B : Option Addr) (d : Nat) (u : World) => Lib.hid (from_long B n d u (by omega))
    clear h2 q1 q2 q3 q4
    go_enter Try.func22, Try.ntmps22
    go_upto_region 3 with fail
    refine wp_region_lit ?_
    refine wpList_yield rfl _ (exec_move _ rfl) ?_
    simp only [Act.put, Act.eval, Array.getD_eq_getD_getElem?, List.getElem?_toArray, List.getElem?_cons_succ, List.getElem?_cons_zero, Option.getD_some, List.setIfInBounds_toArray, List.set_cons_zero, List.set_cons_succ]
    refine wpList_plain rfl fun K hK => ?_; go_simp
    with_reducible refine (CH _ h1).out.mono ?_
    rintro e w1 ⟨v1, rfl, o1, V1⟩
    refine hK _ _ ?_; clear hK
    (try simp only [Act.put, List.setIfInBounds_toArray, List.set_cons_zero, List.set_cons_succ])
    refine wpList_yield rfl _ (exec_assign _ rfl) ?_
    simp only [Act.put, Act.eval, Array.getD_eq_getD_getElem?, List.getElem?_toArray, List.getElem?_cons_succ, List.getElem?_cons_zero, Option.getD_some, List.setIfInBounds_toArray, List.set_cons_zero, List.set_cons_succ]
    refine wpList_nil ?_
    obtain ⟨B, d, rfl, y1⟩ := (OW _ _ _ o1).out
    have x1 := h1.below V1
    clear o1 h1 CH OW
    go_upto_region 4 with fail
    refine wp_region_lit ?_
    refine wpList_yield rfl _ (exec_move _ rfl) ?_
    simp only [Act.put, Act.eval, Array.getD_eq_getD_getElem?, List.getElem?_toArray, List.getElem?_cons_succ, List.getElem?_cons_zero, Option.getD_some, List.setIfInBounds_toArray, List.set_cons_zero, List.set_cons_succ]
    refine wpList_plain rfl fun K hK => ?_; go_simp
    with_reducible refine (FL _ _ _).out.mono ?_
    rintro e _ ⟨rfl, rfl⟩
    refine hK _ _ ?_; clear hK
    (try simp only [Act.put, List.setIfInBounds_toArray, List.set_cons_zero, List.set_cons_succ])
    refine wpList_yield rfl _ (exec_move _ rfl) ?_
    simp only [Act.put, Act.eval, Array.getD_eq_getD_getElem?, List.getElem?_toArray, List.getElem?_cons_succ, List.getElem?_cons_zero, Option.getD_some, List.setIfInBounds_toArray, List.set_cons_zero, List.set_cons_succ]
    refine wpList_yield rfl ?vp1_3 ?yp1_3 ?_
    case yp1_3 => go_simp; try with_reducible rfl
    simp only [Act.put, List.setIfInBounds_toArray, List.set_cons_zero, List.set_cons_succ]
    refine wpList_yield rfl ?vp2_4 ?yp2_4 ?_
    case yp2_4 => go_simp; try with_reducible rfl
    simp only [Act.put, List.setIfInBounds_toArray, List.set_cons_zero, List.set_cons_succ]
    refine wpList_yield rfl _ (exec_assign _ rfl) ?_
    simp only [Act.put, Act.eval, Array.getD_eq_getD_getElem?, List.getElem?_toArray, List.getElem?_cons_succ, List.getElem?_cons_zero, Option.getD_some, List.setIfInBounds_toArray, List.set_cons_zero, List.set_cons_succ]
    refine wpList_yield rfl _ (exec_assign _ rfl) ?_
    simp only [Act.put, Act.eval, Array.getD_eq_getD_getElem?, List.getElem?_toArray, List.getElem?_cons_succ, List.getElem?_cons_zero, Option.getD_some, List.setIfInBounds_toArray, List.set_cons_zero, List.set_cons_succ]
    refine wpList_nil ?_
    clear FL
    go_upto_region 6 with fail
    refine wp_region_lit ?_
    refine wpList_yield rfl _ (exec_move _ rfl) ?_
    simp only [Act.put, Act.eval, Array.getD_eq_getD_getElem?, List.getElem?_toArray, List.getElem?_cons_succ, List.getElem?_cons_zero, Option.getD_some, List.setIfInBounds_toArray, List.set_cons_zero, List.set_cons_succ]
    refine wpList_yield rfl ?vp3_1 ?yp3_1 ?_
    case yp3_1 => go_simp; try with_reducible rfl
    simp only [Act.put, List.setIfInBounds_toArray, List.set_cons_zero, List.set_cons_succ]
    refine wpList_yield rfl _ (exec_move _ rfl) ?_
    simp only [Act.put, Act.eval, Array.getD_eq_getD_getElem?, List.getElem?_toArray, List.getElem?_cons_succ, List.getElem?_cons_zero, Option.getD_some, List.setIfInBounds_toArray, List.set_cons_zero, List.set_cons_succ]
    refine wpList_yield_w rfl _ (exec_move _ rfl) ?_
    simp only [Act.put, Act.eval, Array.getD_eq_getD_getElem?, List.getElem?_toArray, List.getElem?_cons_succ, List.getElem?_cons_zero, Option.getD_some, List.setIfInBounds_toArray, List.set_cons_zero, List.set_cons_succ]
    refine wpList_yield_w rfl ?vp4_4 ?yp4_4 ?_
    case yp4_4 => go_simp; try with_reducible rfl
    simp only [Act.put, List.setIfInBounds_toArray, List.set_cons_zero, List.set_cons_succ]
    refine wpList_yield rfl ?vp5_5 ?yp5_5 ?_
    case yp5_5 => go_simp; try with_reducible rfl
    simp only [Act.put, List.setIfInBounds_toArray, List.set_cons_zero, List.set_cons_succ]
    refine wpList_yield rfl _ (exec_move _ rfl) ?_
    simp only [Act.put, Act.eval, Array.getD_eq_getD_getElem?, List.getElem?_toArray, List.getElem?_cons_succ, List.getElem?_cons_zero, Option.getD_some, List.setIfInBounds_toArray, List.set_cons_zero, List.set_cons_succ]
    refine wpList_yield_w rfl _ (exec_move _ rfl) ?_
    simp only [Act.put, Act.eval, Array.getD_eq_getD_getElem?, List.getElem?_toArray, List.getElem?_cons_succ, List.getElem?_cons_zero, Option.getD_some, List.setIfInBounds_toArray, List.set_cons_zero, List.set_cons_succ]
    refine wpList_yield_w rfl _ (exec_move _ rfl) ?_
    simp only [Act.put, Act.eval, Array.getD_eq_getD_getElem?, List.getElem?_toArray, List.getElem?_cons_succ, List.getElem?_cons_zero, Option.getD_some, List.setIfInBounds_toArray, List.set_cons_zero, List.set_cons_succ]
    refine wpList_plain_w rfl fun K hK => ?_; go_simp
    with_reducible refine (SM _ _ _ y1 x1).out.mono ?_
    rintro e w2 ⟨rfl, V2⟩
    refine hK _ _ ?_; clear hK
    (try simp only [Act.put, List.setIfInBounds_toArray, List.set_cons_zero, List.set_cons_succ])
    refine wpList_yield rfl ?vp6_10 ?yp6_10 ?_
    case yp6_10 => go_simp; try with_reducible rfl
    simp only [Act.put, List.setIfInBounds_toArray, List.set_cons_zero, List.set_cons_succ]
    refine wpList_yield rfl _ (exec_assign _ rfl) ?_
    simp only [Act.put, Act.eval, Array.getD_eq_getD_getElem?, List.getElem?_toArray, List.getElem?_cons_succ, List.getElem?_cons_zero, Option.getD_some, List.setIfInBounds_toArray, List.set_cons_zero, List.set_cons_succ]
    refine wpList_nil ?_
    go_wp2_with fail
    go_ret
    exact ⟨rfl, bthen V1 V2 V1.size⟩
  have z1 : ¬ (60 : Int) < (n : Int) := by omega
  have z5 : ¬ (4096 : Int) < (n : Int) := by omega
  have FR := fun (B : Option Addr) (d : Nat) (u : World) (q : Hl u B n d ls) => Lib.hid (from_any B n d ls u q (by omega))
  have HLs := Lib.hid h1.len
  have HEs := Lib.hid h1.each
  have hn60 : n ≤ 60 := by omega
  clear q1 q2 q3 q4
  go_enter Try.func22, Try.ntmps22
  go_upto_region 3 with fail
  refine wp_region_lit ?_
  refine wpList_yield rfl _ (exec_move _ rfl) ?_
  simp only [Act.put, Act.eval, Array.getD_eq_getD_getElem?, List.getElem?_toArray, List.getElem?_cons_succ, List.getElem?_cons_zero, Option.getD_some, List.setIfInBounds_toArray, List.set_cons_zero, List.set_cons_succ]
  refine wpList_plain rfl fun K hK => ?_; go_simp
  with_reducible refine (CH _ h1).out.mono ?_
  rintro e w1 ⟨v1, rfl, o1, V1⟩
  refine hK _ _ ?_; clear hK
  (try simp only [Act.put, List.setIfInBounds_toArray, List.set_cons_zero, List.set_cons_succ])
  refine wpList_yield rfl _ (exec_assign _ rfl) ?_
  simp only [Act.put, Act.eval, Array.getD_eq_getD_getElem?, List.getElem?_toArray, List.getElem?_cons_succ, List.getElem?_cons_zero, Option.getD_some, List.setIfInBounds_toArray, List.set_cons_zero, List.set_cons_succ]
  refine wpList_nil ?_
  obtain ⟨X, cx, rfl, y1⟩ := (OW _ _ _ o1).out
  have hov := own_over o1
  obtain ⟨gx, hgx⟩ := over_at hov
  have x1 := h1.below V1
  clear o1 hov
  go_upto_region 4 with fail
  refine wp_region_lit ?_
  refine wpList_yield rfl _ (exec_move _ rfl) ?_
  simp only [Act.put, Act.eval, Array.getD_eq_getD_getElem?, List.getElem?_toArray, List.getElem?_cons_succ, List.getElem?_cons_zero, Option.getD_some, List.setIfInBounds_toArray, List.set_cons_zero, List.set_cons_succ]
  refine wpList_plain rfl fun K hK => ?_; go_simp
  with_reducible refine (FR _ _ _ y1).out.mono ?_
  rintro e w2 ⟨g, S, rfl, lg2, hS, V2⟩
  refine hK _ _ ?_; clear hK
  (try simp only [Act.put, List.setIfInBounds_toArray, List.set_cons_zero, List.set_cons_succ])
  refine wpList_yield rfl _ (exec_move _ rfl) ?_
  simp only [Act.put, Act.eval, Array.getD_eq_getD_getElem?, List.getElem?_toArray, List.getElem?_cons_succ, List.getElem?_cons_zero, Option.getD_some, List.setIfInBounds_toArray, List.set_cons_zero, List.set_cons_succ]
  refine wpList_yield rfl ?vp7_3 ?yp7_3 ?_
  case yp7_3 => go_simp; try with_reducible rfl
  simp only [Act.put, List.setIfInBounds_toArray, List.set_cons_zero, List.set_cons_succ]
  refine wpList_yield rfl ?vp8_4 ?yp8_4 ?_
  case yp8_4 => go_simp; try with_reducible rfl
  simp only [Act.put, List.setIfInBounds_toArray, List.set_cons_zero, List.set_cons_succ]
  refine wpList_yield rfl _ (exec_assign _ rfl) ?_
  simp only [Act.put, Act.eval, Array.getD_eq_getD_getElem?, List.getElem?_toArray, List.getElem?_cons_succ, List.getElem?_cons_zero, Option.getD_some, List.setIfInBounds_toArray, List.set_cons_zero, List.set_cons_succ]
  refine wpList_yield rfl _ (exec_assign _ rfl) ?_
  simp only [Act.put, Act.eval, Array.getD_eq_getD_getElem?, List.getElem?_toArray, List.getElem?_cons_succ, List.getElem?_cons_zero, Option.getD_some, List.setIfInBounds_toArray, List.set_cons_zero, List.set_cons_succ]
  refine wpList_nil ?_
  have x2 := x1.below V2
  have y2 := y1.below V2
  have hgx2 : 0 < n → X = some ⟨gx, 0, none⟩ ∧ (∃ cs, Blk w2 gx 25 cs ∧ n * 32 ≤ cs.length) ∧ w.heap.size ≤ gx ∧ gx < w1.heap.size := by
    intro h0
    obtain ⟨e, ⟨cs, hb, hl⟩, g1, g2⟩ := hgx h0
    exact ⟨e, ⟨cs, hb.below V2 g2, hl⟩, g1, g2⟩
  have B2 := bthen V1 V2 V1.size
  have s1 := V1.size
  have s2 := V2.size
  clear FR x1 y1 hgx V1 V2
  go_upto_region 7 with fail
  refine wp_region_lit ?_
  refine wpList_yield rfl _ (exec_move _ rfl) ?_
  simp only [Act.put, Act.eval, Array.getD_eq_getD_getElem?, List.getElem?_toArray, List.getElem?_cons_succ, List.getElem?_cons_zero, Option.getD_some, List.setIfInBounds_toArray, List.set_cons_zero, List.set_cons_succ]
  refine wpList_yield rfl ?vp9_1 ?yp9_1 ?_
  case yp9_1 => go_simp; try with_reducible rfl
  simp only [Act.put, List.setIfInBounds_toArray, List.set_cons_zero, List.set_cons_succ]
  refine wpList_yield rfl _ (exec_move _ rfl) ?_
  simp only [Act.put, Act.eval, Array.getD_eq_getD_getElem?, List.getElem?_toArray, List.getElem?_cons_succ, List.getElem?_cons_zero, Option.getD_some, List.setIfInBounds_toArray, List.set_cons_zero, List.set_cons_succ]
  refine wpList_yield_w rfl _ (exec_move _ rfl) ?_
  simp only [Act.put, Act.eval, Array.getD_eq_getD_getElem?, List.getElem?_toArray, List.getElem?_cons_succ, List.getElem?_cons_zero, Option.getD_some, List.setIfInBounds_toArray, List.set_cons_zero, List.set_cons_succ]
  refine wpList_yield_w rfl ?vp10_4 ?yp10_4 ?_
  case yp10_4 => go_simp; try with_reducible rfl
  simp only [Act.put, List.setIfInBounds_toArray, List.set_cons_zero, List.set_cons_succ]
  refine wpList_yield rfl ?vp11_5 ?yp11_5 ?_
  case yp11_5 => go_simp; try with_reducible rfl
  simp only [Act.put, List.setIfInBounds_toArray, List.set_cons_zero, List.set_cons_succ]
  refine wpList_yield rfl _ (exec_move _ rfl) ?_
  simp only [Act.put, Act.eval, Array.getD_eq_getD_getElem?, List.getElem?_toArray, List.getElem?_cons_succ, List.getElem?_cons_zero, Option.getD_some, List.setIfInBounds_toArray, List.set_cons_zero, List.set_cons_succ]
  refine wpList_yield_w rfl _ (exec_move _ rfl) ?_
  simp only [Act.put, Act.eval, Array.getD_eq_getD_getElem?, List.getElem?_toArray, List.getElem?_cons_succ, List.getElem?_cons_zero, Option.getD_some, List.setIfInBounds_toArray, List.set_cons_zero, List.set_cons_succ]
  refine wpList_yield_w rfl _ (exec_move _ rfl) ?_
  simp only [Act.put, Act.eval, Array.getD_eq_getD_getElem?, List.getElem?_toArray, List.getElem?_cons_succ, List.getElem?_cons_zero, Option.getD_some, List.setIfInBounds_toArray, List.set_cons_zero, List.set_cons_succ]
  refine wpList_plain_w rfl fun K hK => ?_; go_simp
  with_reducible refine (SM _ _ _ y2 x2).out.mono ?_
  rintro e w3 ⟨rfl, V3⟩
  refine hK _ _ ?_; clear hK
  (try simp only [Act.put, List.setIfInBounds_toArray, List.set_cons_zero, List.set_cons_succ])
  refine wpList_yield_w rfl ?vp12_10 ?yp12_10 ?_
  case yp12_10 => go_simp; try with_reducible rfl
  simp only [Act.put, List.setIfInBounds_toArray, List.set_cons_zero, List.set_cons_succ]
  refine wpList_yield rfl ?vp13_11 ?yp13_11 ?_
  case yp13_11 => go_simp; try with_reducible rfl
  simp only [Act.put, List.setIfInBounds_toArray, List.set_cons_zero, List.set_cons_succ]
  refine wpList_nil ?_
  have lg3 := lg2.below V3
  have hgx3 : Hid (0 < n → X = some ⟨gx, 0, none⟩ ∧ (∃ cs, Blk w3 gx 25 cs ∧ n * 32 ≤ cs.length) ∧ w.heap.size ≤ gx ∧ gx < w1.heap.size) := Lib.hid (by
    intro h0
    obtain ⟨e, ⟨cs, hb, hl⟩, g1, g2⟩ := hgx2 h0
    exact ⟨e, ⟨cs, hb.below V3 (by omega), hl⟩, g1, g2⟩)
  have hOs : OverS n gx w3 w3 := ⟨Fr.refl _ _, fun h0 => (hgx3.out h0).2.1⟩
  have B3 := bthen B2 V3 B2.size
  clear SM y2 x2 lg2 hgx2 B2 V3
  go_upto_region 9 with fail
  go_wp2_with fail
  go_loopw [8] (fun i wr => ∃ j : Nat, j ≤ n ∧ i = .int .i64 (j : Int) ∧ OverS n gx w3 wr) (fun i _ => n - (intOf i).toNat)
  case atStart => exact ⟨0, by omega, by go_num, hOs⟩
  case round =>
    clear hOs
    obtain ⟨j, hj, rfl, ov⟩ := hrel
    by_cases hlt : j < n
    · have hltz : (j : Int) < (n : Int) := by omega
      obtain ⟨cs', hbk, hcl⟩ := ov.blk (by omega)
      obtain ⟨hX, _, _, _⟩ := hgx3.out (by omega)
      subst hX
      have hfr := ov.fr
      clear ov CH
      go_upto_region 10 with fail
      refine wp_region_lit ?_
      refine wpList_yield rfl _ (exec_move _ rfl) ?_
      simp only [Act.put, Act.eval, Array.getD_eq_getD_getElem?, List.getElem?_toArray, List.getElem?_cons_succ, List.getElem?_cons_zero, Option.getD_some, List.setIfInBounds_toArray, List.set_cons_zero, List.set_cons_succ]
      refine wpList_yield rfl _ (exec_move _ rfl) ?_
      simp only [Act.put, Act.eval, Array.getD_eq_getD_getElem?, List.getElem?_toArray, List.getElem?_cons_succ, List.getElem?_cons_zero, Option.getD_some, List.setIfInBounds_toArray, List.set_cons_zero, List.set_cons_succ]
      refine wpList_yield rfl _ (exec_len132 _ rfl _ n cx rfl) ?_
      simp only [Act.put, List.setIfInBounds_toArray, List.set_cons_zero, List.set_cons_succ]
      refine wpList_yield rfl ?vp14_3 ?yp14_3 ?_
      case yp14_3 => go_simp; try with_reducible rfl
      simp only [Act.put, List.setIfInBounds_toArray, List.set_cons_zero, List.set_cons_succ]
      refine wpList_nil ?_
      go_upto_region 12 with fail
      refine wp_region_lit ?_
      refine wpList_yield rfl _ (exec_move _ rfl) ?_
      simp only [Act.put, Act.eval, Array.getD_eq_getD_getElem?, List.getElem?_toArray, List.getElem?_cons_succ, List.getElem?_cons_zero, Option.getD_some, List.setIfInBounds_toArray, List.set_cons_zero, List.set_cons_succ]
      refine wpList_yield rfl _ (exec_move _ rfl) ?_
      simp only [Act.put, Act.eval, Array.getD_eq_getD_getElem?, List.getElem?_toArray, List.getElem?_cons_succ, List.getElem?_cons_zero, Option.getD_some, List.setIfInBounds_toArray, List.set_cons_zero, List.set_cons_succ]
      refine wpList_yield rfl _ (exec_build _ rfl (bvs (7 :: zb 31)).toArray (by kernel_rfl)) ?_
      simp only [Act.put, List.setIfInBounds_toArray, List.set_cons_zero, List.set_cons_succ]
      refine wpList_yield rfl _ (exec_siaz0 _ _ rfl gx n cx j _ rfl rfl hlt) ?_
      simp only [Act.put, List.setIfInBounds_toArray, List.set_cons_zero, List.set_cons_succ]
      refine wpList_store_at at25w.i rfl (.tmp 71) (.tmp 70) rfl gx (j * 32) 25 cs' (bvs (7 :: zb 31)) rfl rfl hbk (by rfl) (by omega) (bvs_one _) ?_
      intro w5 b5 g5 s5
      (try simp only [Act.put, List.setIfInBounds_toArray, List.set_cons_zero, List.set_cons_succ])
      refine wpList_nil ?_
      have hOv : OverS n gx w3 w5 := ⟨hfr.grown g5 (by intro b hb; cases hb; exact .inl ⟨by omega, rfl⟩), fun _ => ⟨_, b5, by rw [splice_len _ _ _ (by rw [bvs_length]; simp only [List.length_cons, zb_length]; omega)]; exact hcl⟩⟩
      clear b5 g5 s5 hfr hbk hcl
      go_wp2_with fail
      go_roundw
      case rel => exact ⟨j + 1, by omega, by go_num, hOv⟩
      case measure => simp only [intOf]; omega
    · have hltz : ¬ (j : Int) < (n : Int) := by omega
      have hf := ov.fr
      have lg6 : Lg S wr g ls := lg3.fr hf (fun b s e => by have := hS b s; have := (hgx3.out e.1).2.2; omega)
      have B6 : Below w.heap.size w wr := ⟨hf.os.trans B3.os, hf.tape.trans B3.tape, hf.output.trans B3.output, Nat.le_trans B3.size hf.size, fun b hb => (hf.block b (by have := B3.size; omega) (fun u => by have := (hgx3.out u.1).2.2; omega)).trans (B3.block b hb)⟩
      have hS6 : ∀ k, S k → w.heap.size ≤ k := fun k s => Nat.le_trans s1 (hS k s)
      have hlt6 := lg6.slt
      clear lg3 hf ov hgx3 B3 hS
      go_upto_region 10 with fail
      refine wp_region_lit ?_
      refine wpList_yield rfl _ (exec_move _ rfl) ?_
      simp only [Act.put, Act.eval, Array.getD_eq_getD_getElem?, List.getElem?_toArray, List.getElem?_cons_succ, List.getElem?_cons_zero, Option.getD_some, List.setIfInBounds_toArray, List.set_cons_zero, List.set_cons_succ]
      refine wpList_yield rfl _ (exec_move _ rfl) ?_
      simp only [Act.put, Act.eval, Array.getD_eq_getD_getElem?, List.getElem?_toArray, List.getElem?_cons_succ, List.getElem?_cons_zero, Option.getD_some, List.setIfInBounds_toArray, List.set_cons_zero, List.set_cons_succ]
      refine wpList_yield rfl _ (exec_len132 _ rfl X n cx rfl) ?_
      simp only [Act.put, List.setIfInBounds_toArray, List.set_cons_zero, List.set_cons_succ]
      refine wpList_yield rfl ?vp15_3 ?yp15_3 ?_
      case yp15_3 => go_simp; try with_reducible rfl
      simp only [Act.put, List.setIfInBounds_toArray, List.set_cons_zero, List.set_cons_succ]
      refine wpList_nil ?_
      go_upto_region 13 with fail
      refine wp_region_lit ?_
      refine wpList_yield rfl _ (exec_move _ rfl) ?_
      simp only [Act.put, Act.eval, Array.getD_eq_getD_getElem?, List.getElem?_toArray, List.getElem?_cons_succ, List.getElem?_cons_zero, Option.getD_some, List.setIfInBounds_toArray, List.set_cons_zero, List.set_cons_succ]
      refine wpList_plain rfl fun K hK => ?_; go_simp
      with_reducible refine (CH _ (h1.below B6)).out.mono ?_
      rintro e w7 ⟨v7, rfl, o7, V7⟩
      obtain ⟨Y, cy, rfl, _⟩ := (OW _ _ _ o7).out
      refine hK _ _ ?_; clear hK
      (try simp only [Act.put, List.setIfInBounds_toArray, List.set_cons_zero, List.set_cons_succ])
      refine wpList_yield rfl _ (exec_build _ rfl #[.slice Y n cy] (by kernel_rfl)) ?_
      simp only [Act.put, List.setIfInBounds_toArray, List.set_cons_zero, List.set_cons_succ]
      refine wpList_plain rfl fun K hK => ?_; go_simp
      refine hK _ _ ?_; clear hK
      (try simp only [Act.put, List.setIfInBounds_toArray, List.set_cons_zero, List.set_cons_succ])
      refine wpList_yield rfl _ (exec_assign _ rfl) ?_
      simp only [Act.put, Act.eval, Array.getD_eq_getD_getElem?, List.getElem?_toArray, List.getElem?_cons_succ, List.getElem?_cons_zero, Option.getD_some, List.setIfInBounds_toArray, List.set_cons_zero, List.set_cons_succ]
      refine wpList_nil ?_
      have s6 := B6.size
      have V8 : Below wr.heap.size wr (w7.alloc (.cells #[.slice Y n cy] 152)) := V7.alloc V7.size _
      obtain ⟨T, r8, hT8⟩ := made_lr (S := S) o7 V7 HLs.out HEs.out (by omega)
      have h8 : ScrS w g w7.heap.size 0 (w7.alloc (.cells #[.slice Y n cy] 152)) :=
        ⟨S, T, ls, ⟨lg6.below V8, r8, fun k s u => by have := hlt6 k s; have := hT8 k u; omega⟩, hS6, fun k u => by have := hT8 k u; omega, by rw [HLs.out]; omega, bthen B6 V8 s6⟩
      clear lg6 B6 hS6 hlt6 V8 r8 hT8 o7 V7 CH OW h1 s6
      generalize World.alloc w7 _ = w8 at *
      generalize w7.heap.size = G at *
      go_upto_region 14 with fail
      go_wp2_with fail
      go_loopw [10] (fun i wq => ∃ j : Nat, j ≤ m ∧ i = .int .i64 (j : Int) ∧ ScrS w g G j wq) (fun i _ => m - (intOf i).toNat)
      case atStart => exact ⟨0, by omega, by go_num, h8⟩
      case round =>
        clear h8
        obtain ⟨j, hj, rfl, S2, T2, rs, tw, hS2, hT2, hl2, B9⟩ := hrel
        by_cases hlt : j < m
        · have hltz : (j : Int) < (m : Int) := by omega
          obtain ⟨x, ad, rfl, hrd, hok⟩ : ∃ x ad, M = some ad ∧ Rd wr (some (ad.add (j * 35))) (LAct.cs x) ∧ x.Ok := by
            have a9 := h2.below B9
            obtain ⟨ad, e, hrd⟩ := a9.at_ j (by rw [a9.len]; exact hlt)
            exact ⟨_, ad, e, hrd, a9.ok _ (List.getElem_mem _)⟩
          have hlen := Lib.hid hok.len
          have AC := Lib.hid (act_any g G rs x hok wr tw (by omega))
          have ST := fun (w' : World) (q : ActS S2 T2 g G rs wr w') => Lib.hid (ScrS.step hS2 hT2 hl2 B9 q)
          clear tw hS2 hT2 hl2
          generalize x.cs = cs at *
          go_upto_region 17 with fail
          refine wp_region_lit ?_
          refine wpList_yield rfl _ (exec_move _ rfl) ?_
          simp only [Act.put, Act.eval, Array.getD_eq_getD_getElem?, List.getElem?_toArray, List.getElem?_cons_succ, List.getElem?_cons_zero, Option.getD_some, List.setIfInBounds_toArray, List.set_cons_zero, List.set_cons_succ]
          refine wpList_yield rfl _ (exec_move _ rfl) ?_
          simp only [Act.put, Act.eval, Array.getD_eq_getD_getElem?, List.getElem?_toArray, List.getElem?_cons_succ, List.getElem?_cons_zero, Option.getD_some, List.setIfInBounds_toArray, List.set_cons_zero, List.set_cons_succ]
          refine wpList_yield rfl _ (exec_move _ rfl) ?_
          simp only [Act.put, Act.eval, Array.getD_eq_getD_getElem?, List.getElem?_toArray, List.getElem?_cons_succ, List.getElem?_cons_zero, Option.getD_some, List.setIfInBounds_toArray, List.set_cons_zero, List.set_cons_succ]
          refine wpList_yield rfl _ (exec_move _ rfl) ?_
          simp only [Act.put, Act.eval, Array.getD_eq_getD_getElem?, List.getElem?_toArray, List.getElem?_cons_succ, List.getElem?_cons_zero, Option.getD_some, List.setIfInBounds_toArray, List.set_cons_zero, List.set_cons_succ]
          refine wpList_yield rfl _ (exec_siaz Try.underlying147 sz141 _ _ rfl ad m e' j _ rfl rfl hlt) ?_
          simp only [Act.put, List.setIfInBounds_toArray, List.set_cons_zero, List.set_cons_succ]
          refine wpList_yield rfl _ (exec_load_rd at141 _ rfl _ cs rfl hrd (by omega) hlen.out) ?_
          simp only [Act.put, List.setIfInBounds_toArray, List.set_cons_zero, List.set_cons_succ]
          refine wpList_plain rfl fun K hK => ?_; go_simp
          with_reducible refine AC.out.mono ?_
          rintro e w10 ⟨rfl, hA⟩
          refine hK _ _ ?_; clear hK
          (try simp only [Act.put, List.setIfInBounds_toArray, List.set_cons_zero, List.set_cons_succ])
          refine wpList_yield rfl ?vp16_7 ?yp16_7 ?_
          case yp16_7 => go_simp; try with_reducible rfl
          simp only [Act.put, List.setIfInBounds_toArray, List.set_cons_zero, List.set_cons_succ]
          refine wpList_nil ?_
          have h10 := (ST w10 hA).out
          clear AC ST hA hrd hlen hok
          go_wp2_with fail
          go_roundw
          case rel => exact ⟨j + 1, by omega, by go_num, h10⟩
          case measure => simp only [intOf]; omega
        · have hltz : ¬ (j : Int) < (m : Int) := by omega
          have AC := Lib.hid (act_any g G rs ⟨6, 0, 0, zb 32⟩ ⟨by simp, by simp, by simp, zb_length 32⟩ wr tw (by omega))
          have ST := fun (w' : World) (q : ActS S2 T2 g G rs wr w') => Lib.hid (ScrS.step hS2 hT2 hl2 B9 q)
          clear tw hS2 hT2 hl2
          go_upto_region 19 with fail
          refine wp_region_lit ?_
          refine wpList_yield rfl _ (exec_move _ rfl) ?_
          simp only [Act.put, Act.eval, Array.getD_eq_getD_getElem?, List.getElem?_toArray, List.getElem?_cons_succ, List.getElem?_cons_zero, Option.getD_some, List.setIfInBounds_toArray, List.set_cons_zero, List.set_cons_succ]
          refine wpList_yield rfl _ (exec_move _ rfl) ?_
          simp only [Act.put, Act.eval, Array.getD_eq_getD_getElem?, List.getElem?_toArray, List.getElem?_cons_succ, List.getElem?_cons_zero, Option.getD_some, List.setIfInBounds_toArray, List.set_cons_zero, List.set_cons_succ]
          refine wpList_yield rfl _ (exec_build _ rfl (LAct.cs ⟨6, 0, 0, zb 32⟩).toArray (by kernel_rfl)) ?_
          simp only [Act.put, List.setIfInBounds_toArray, List.set_cons_zero, List.set_cons_succ]
          refine wpList_plain rfl fun K hK => ?_; go_simp
          with_reducible refine AC.out.mono ?_
          rintro e w10 ⟨rfl, hA⟩
          refine hK _ _ ?_; clear hK
          (try simp only [Act.put, List.setIfInBounds_toArray, List.set_cons_zero, List.set_cons_succ])
          refine wpList_yield rfl _ (exec_assign _ rfl) ?_
          simp only [Act.put, Act.eval, Array.getD_eq_getD_getElem?, List.getElem?_toArray, List.getElem?_cons_succ, List.getElem?_cons_zero, Option.getD_some, List.setIfInBounds_toArray, List.set_cons_zero, List.set_cons_succ]
          refine wpList_nil ?_
          obtain ⟨_, _, _, _, _, _, _, B10⟩ := (ST w10 hA).out
          clear AC ST hA
          go_wp2_with fail
          go_ret
          exact ⟨rfl, B10⟩
end Go.Proofs.Ytehbahobkgoapaa
