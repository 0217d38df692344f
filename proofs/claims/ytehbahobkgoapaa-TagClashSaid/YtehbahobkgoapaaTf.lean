/- The walk of TagClash: it says true for every two texts. -/
import Derived.Test.YtehbahobkgoapaaTe
import Derived.Test.YtehbahobkgoapaaGp
import Derived.Test.YtehbahobkgoapaaLs
namespace Go.Proofs.Ytehbahobkgoapaa
open Go Go.RowKit
set_option linter.unusedSimpArgs false
set_option linter.unusedVariables false

def clashB (l k : List UInt8) : Bool := !(l == k) && (shaL l == shaL k)
theorem exec_g0 {w : World} {a : Act} {o : Oper} (x : Operand) (ho : o.op = .fieldAddr 124 x 0) (g : Nat) (hx : a.eval x = .pointer (some ⟨g, 0, none⟩)) : (execOp a.eval o).run Try.prog w = .ok (.value (.pointer (some ⟨g, 0, none⟩))) w := by
  unfold execOp
  simp only [ho, hx]
  go_simp
theorem exec_g1 {w : World} {a : Act} {o : Oper} (x : Operand) (ho : o.op = .fieldAddr 124 x 1) (g : Nat) (hx : a.eval x = .pointer (some ⟨g, 0, none⟩)) : (execOp a.eval o).run Try.prog w = .ok (.value (.pointer (some ⟨g, 1, none⟩))) w := by
  unfold execOp
  simp only [ho, hx]
  go_simp
theorem at124 : AT Try.prog 124 2 := ⟨⟨_, Try.underlying124, rfl⟩, by kernel_rfl⟩
theorem pair_blk {w : World} {g : Nat} {u v : Value} (h : Blk w g 124 [u, v]) : w.cell? ⟨g, 0, none⟩ = some u ∧ w.cell? ⟨g, 1, none⟩ = some v := ⟨by rw [h.cell]; rfl, by rw [h.cell]; rfl⟩
theorem cmp_ne (l k : List UInt8) : (Lib.compareBytes l k == 0) = (l == k) := by
  rw [Bool.eq_iff_iff]
  simp only [beq_iff_eq]
  induction l generalizing k with
  | nil => cases k <;> simp [Lib.compareBytes]
  | cons a l ih =>
    cases k with
    | nil => simp [Lib.compareBytes]
    | cons b k =>
      rw [Lib.compareBytes]
      by_cases h1 : a < b
      · rw [if_pos h1]
        constructor
        · intro h; exact absurd h (by decide)
        · intro h; rw [(List.cons.inj h).1] at h1; exact absurd h1 (UInt8.lt_irrefl _)
      · by_cases h2 : b < a
        · rw [if_neg h1, if_pos h2]
          constructor
          · intro h; exact absurd h (by decide)
          · intro h; rw [(List.cons.inj h).1] at h2; exact absurd h2 (UInt8.lt_irrefl _)
        · rw [if_neg h1, if_neg h2, ih]
          have e : a = b := UInt8.le_antisymm (UInt8.not_lt.1 h2) (UInt8.not_lt.1 h1)
          subst e
          simp

theorem exec_ineq {P : Program} {w : World} {a : Act} {o : Oper} {t t' : TypeId} {b : Bool} (x y : Operand) (ho : o.op = .binOp .neq t x y t') (m n : Int) (hx : a.eval x = .int .i64 m) (hy : a.eval y = .int .i64 n) (h : (m == n) = !b) :
    (execOp a.eval o).run P w = .ok (.value (.bool b)) w := by
  unfold execOp
  simp only [ho, hx, hy]
  go_simp
  cases b <;> simp_all
theorem ab22w : AB Try.prog 22 32 := ⟨⟨5, Try.underlying22, Try.underlying5, by kernel_rfl⟩, by kernel_rfl⟩
set_option maxRecDepth 100000 in
set_option maxHeartbeats 4000000 in
theorem clash_any (A : Option Addr) (n c : Nat) (l : List UInt8) (B : Option Addr) (m d : Nat) (k : List UInt8) (w : World) (h1 : Tx w A n c l) (h2 : Tx w B m d k) (hn : n ≤ 140737488351232) (hm : m ≤ 140737488351232) :
    Calls Try.prog 100 #[.agg #[.slice A n c, .slice B m d]] w fun e w' => e = .returned (.bool (clashB l k)) ∧ Below w.heap.size w w' := by
  have b1 : Blk (w.alloc (.cells #[.slice A n c, .slice B m d] 124)) w.heap.size 124 [.slice A n c, .slice B m d] := Blk.new w 124 [.slice A n c, .slice B m d]
  have hw0 : Below w.heap.size w (w.alloc (.cells #[.slice A n c, .slice B m d] 124)) := (Below.refl _ _).alloc (Nat.le_refl _) _
  have CM := fun (u : World) (hu : Below w.heap.size w u) => Lib.hid (octet_compare A n c l B m d k u (h1.below hu).rd h1.len (h2.below hu).rd h2.len)
  have S1 := fun (u : World) (hu : Below w.heap.size w u) => Lib.hid (sum_tx A n c l u (h1.below hu) (by omega))
  have S2 := fun (u : World) (hu : Below w.heap.size w u) => Lib.hid (sum_tx B m d k u (h2.below hu) (by omega))
  have HC := Lib.hid (cmp_ne l k)
  have HL1 : Hid ((shaL l).length = 32) := Lib.hid (shaL_length _)
  have HL2 : Hid ((shaL k).length = 32) := Lib.hid (shaL_length _)
  obtain ⟨R, hR⟩ : ∃ R, clashB l k = R := ⟨_, rfl⟩
  have HR := Lib.hid hR
  rw [hR]
  clear hR
  obtain ⟨z, hz⟩ : ∃ z, Lib.compareBytes l k = z := ⟨_, rfl⟩
  rw [hz] at HC CM
  by_cases hlk : l = k
  · have hz0 : z = 0 := by have h := HC.out; rw [show (l == k) = true by simp [hlk]] at h; simpa using h
    have hR0 : R = false := by have h := HR.out; unfold clashB at h; rw [show (l == k) = true by simp [hlk]] at h; simpa using h.symm
    subst hz0; subst hR0
    clear hz HC HR hlk
    go_enter Try.func100, Try.ntmps100
    go_upto_region 1 with fail
    generalize hW : World.alloc w _ = w0
    have h3 : Blk w0 w.heap.size 124 [.slice A n c, .slice B m d] ∧ Below w.heap.size w w0 := by rw [← hW]; exact ⟨b1, hw0⟩
    clear hW b1 hw0
    obtain ⟨b1, hw0⟩ := h3
    refine rg_begin (Below w0.heap.size w0) [] [4, 9, 12] [0, 1, 2, 3, 4, 5, 6, 7, 8, 10, 11, 9, 12, 13, 14, 15] 0 mixed (by kernel_rfl) (fun _ _ _ _ e hh => ⟨e.symm.trans hh.1, hh.2⟩) ?_
    simp only [pick, List.map_cons, List.map_nil, List.getD_cons_zero, List.getD_cons_succ]
    have hS : (Below w0.heap.size w0) _ := (Below.refl _ _).drew
    refine rg_take rfl rfl hS (fun W hW => exec_g0 _ rfl w.heap.size rfl) ?_
    simp only [Act.put, List.setIfInBounds_toArray, List.set_cons_zero, List.set_cons_succ]
    refine rg_take rfl rfl hS (fun W hW => exec_load24 _ rfl _ _ rfl (pair_blk (b1.below hW b1.lt)).1) ?_
    simp only [Act.put, List.setIfInBounds_toArray, List.set_cons_zero, List.set_cons_succ]
    refine rg_take rfl rfl hS (fun W hW => exec_g1 _ rfl w.heap.size rfl) ?_
    simp only [Act.put, List.setIfInBounds_toArray, List.set_cons_zero, List.set_cons_succ]
    refine rg_take rfl rfl hS (fun W hW => exec_load24 _ rfl _ _ rfl (pair_blk (b1.below hW b1.lt)).2) ?_
    simp only [Act.put, List.setIfInBounds_toArray, List.set_cons_zero, List.set_cons_succ]
    refine rg_one rfl rfl ?_; intro K hK; go_simp
    with_reducible refine (CM _ (hw0.trans (Below.mono hS hw0.size))).out.mono ?_
    rintro e _ ⟨rfl, rfl⟩
    refine hK _ _ (fun _ => hS) ?_; clear hK
    refine rg_take (v := ?v1_5) rfl rfl hS ?y1_5 ?_
    case y1_5 => intro W hW; (try subst hW); go_simp; try with_reducible rfl
    simp only [Act.put, List.setIfInBounds_toArray, List.set_cons_zero, List.set_cons_succ]
    refine rg_take (v := ?v1_6) rfl rfl hS ?y1_6 ?_
    case y1_6 => intro W hW; (try subst hW); go_simp; try with_reducible rfl
    simp only [Act.put, List.setIfInBounds_toArray, List.set_cons_zero, List.set_cons_succ]
    refine rg_skip rfl rfl hS ?_
    simp only [Act.put, List.setIfInBounds_toArray, List.set_cons_zero, List.set_cons_succ]
    refine rg_skip rfl rfl hS ?_
    simp only [Act.put, List.setIfInBounds_toArray, List.set_cons_zero, List.set_cons_succ]
    refine rg_skip rfl rfl hS ?_
    simp only [Act.put, List.setIfInBounds_toArray, List.set_cons_zero, List.set_cons_succ]
    refine rg_skip rfl rfl hS ?_
    simp only [Act.put, List.setIfInBounds_toArray, List.set_cons_zero, List.set_cons_succ]
    refine rg_pass rfl rfl hS ?_
    simp only [Act.put, List.setIfInBounds_toArray, List.set_cons_zero, List.set_cons_succ]
    refine rg_pass rfl rfl hS ?_
    simp only [Act.put, List.setIfInBounds_toArray, List.set_cons_zero, List.set_cons_succ]
    refine rg_skip rfl rfl hS ?_
    simp only [Act.put, List.setIfInBounds_toArray, List.set_cons_zero, List.set_cons_succ]
    refine rg_take (v := ?v1_14) rfl rfl hS ?y1_14 ?_
    case y1_14 => intro W hW; (try subst hW); go_simp; try with_reducible rfl
    simp only [Act.put, List.setIfInBounds_toArray, List.set_cons_zero, List.set_cons_succ]
    refine rg_take (v := ?v1_15) rfl rfl hS ?y1_15 ?_
    case y1_15 => intro W hW; (try subst hW); go_simp; try with_reducible rfl
    simp only [Act.put, List.setIfInBounds_toArray, List.set_cons_zero, List.set_cons_succ]
    refine rg_done (by kernel_rfl) ?_
    go_wp2_with fail
    go_ret
    exact ⟨rfl, hw0.trans (Below.mono hS hw0.size)⟩
  · have hz0 : (z == 0) = false := by rw [HC.out]; simp [hlk]
    have hRR : Hid ((shaL l == shaL k) = R) := Lib.hid (by have h := HR.out; unfold clashB at h; rw [show (l == k) = false by simp [hlk]] at h; simpa using h)
    clear hz HC HR hlk
    generalize shaL l = dl at *
    generalize shaL k = dk at *
    unfold arr8 at *
    go_enter Try.func100, Try.ntmps100
    go_upto_region 1 with fail
    generalize hW : World.alloc w _ = w0
    have h3 : Blk w0 w.heap.size 124 [.slice A n c, .slice B m d] ∧ Below w.heap.size w w0 := by rw [← hW]; exact ⟨b1, hw0⟩
    clear hW b1 hw0
    obtain ⟨b1, hw0⟩ := h3
    refine rg_begin (Below w0.heap.size w0) [] [4, 9, 12] [0, 1, 2, 3, 4, 5, 6, 7, 8, 10, 11, 9, 12, 13, 14, 15] 0 mixed (by kernel_rfl) (fun _ _ _ _ e hh => ⟨e.symm.trans hh.1, hh.2⟩) ?_
    simp only [pick, List.map_cons, List.map_nil, List.getD_cons_zero, List.getD_cons_succ]
    have hS : (Below w0.heap.size w0) _ := (Below.refl _ _).drew
    refine rg_take rfl rfl hS (fun W hW => exec_g0 _ rfl w.heap.size rfl) ?_
    simp only [Act.put, List.setIfInBounds_toArray, List.set_cons_zero, List.set_cons_succ]
    refine rg_take rfl rfl hS (fun W hW => exec_load24 _ rfl _ _ rfl (pair_blk (b1.below hW b1.lt)).1) ?_
    simp only [Act.put, List.setIfInBounds_toArray, List.set_cons_zero, List.set_cons_succ]
    refine rg_take rfl rfl hS (fun W hW => exec_g1 _ rfl w.heap.size rfl) ?_
    simp only [Act.put, List.setIfInBounds_toArray, List.set_cons_zero, List.set_cons_succ]
    refine rg_take rfl rfl hS (fun W hW => exec_load24 _ rfl _ _ rfl (pair_blk (b1.below hW b1.lt)).2) ?_
    simp only [Act.put, List.setIfInBounds_toArray, List.set_cons_zero, List.set_cons_succ]
    refine rg_one rfl rfl ?_; intro K hK; go_simp
    with_reducible refine (CM _ (hw0.trans (Below.mono hS hw0.size))).out.mono ?_
    rintro e _ ⟨rfl, rfl⟩
    refine hK _ _ (fun _ => hS) ?_; clear hK
    refine rg_take rfl rfl hS (fun W hW => exec_ineq (b := true) _ _ rfl z 0 rfl rfl hz0) ?_
    simp only [Act.put, List.setIfInBounds_toArray, List.set_cons_zero, List.set_cons_succ]
    refine rg_take (v := ?v2_6) rfl rfl hS ?y2_6 ?_
    case y2_6 => intro W hW; (try subst hW); go_simp; try with_reducible rfl
    simp only [Act.put, List.setIfInBounds_toArray, List.set_cons_zero, List.set_cons_succ]
    refine rg_take rfl rfl hS (fun W hW => exec_g0 _ rfl w.heap.size rfl) ?_
    simp only [Act.put, List.setIfInBounds_toArray, List.set_cons_zero, List.set_cons_succ]
    refine rg_take rfl rfl hS (fun W hW => exec_load24 _ rfl _ _ rfl (pair_blk (b1.below hW b1.lt)).1) ?_
    simp only [Act.put, List.setIfInBounds_toArray, List.set_cons_zero, List.set_cons_succ]
    refine rg_take rfl rfl hS (fun W hW => exec_g1 _ rfl w.heap.size rfl) ?_
    simp only [Act.put, List.setIfInBounds_toArray, List.set_cons_zero, List.set_cons_succ]
    refine rg_take rfl rfl hS (fun W hW => exec_load24 _ rfl _ _ rfl (pair_blk (b1.below hW b1.lt)).2) ?_
    simp only [Act.put, List.setIfInBounds_toArray, List.set_cons_zero, List.set_cons_succ]
    refine rg_one rfl rfl ?_; intro K hK; go_simp
    with_reducible refine (S1 _ (hw0.trans (Below.mono hS hw0.size))).out.mono ?_
    rintro e w1 ⟨rfl, hw1⟩
    have hS1 : Below w0.heap.size w0 w1 := Below.trans hS (hw1.mono (Below.size hS))
    refine hK _ _ (fun _ => hS1) ?_; clear hK
    refine rg_one rfl rfl ?_; intro K hK; go_simp
    with_reducible refine (S2 _ (hw0.trans (Below.mono hS1 hw0.size))).out.mono ?_
    rintro e w2 ⟨rfl, hw2⟩
    have hS2 : Below w0.heap.size w0 w2 := Below.trans hS1 (hw2.mono (Below.size hS1))
    refine hK _ _ (fun _ => hS2) ?_; clear hK
    refine rg_take rfl rfl hS2 (fun W hW => exec_eql_to ab25 _ _ rfl dl dk rfl rfl HL1.out HL2.out hRR.out) ?_
    simp only [Act.put, List.setIfInBounds_toArray, List.set_cons_zero, List.set_cons_succ]
    refine rg_take (v := ?v2_14) rfl rfl hS2 ?y2_14 ?_
    case y2_14 => intro W hW; (try subst hW); go_simp; try with_reducible rfl
    simp only [Act.put, List.setIfInBounds_toArray, List.set_cons_zero, List.set_cons_succ]
    refine rg_take (v := ?v2_15) rfl rfl hS2 ?y2_15 ?_
    case y2_15 => intro W hW; (try subst hW); go_simp; try with_reducible rfl
    simp only [Act.put, List.setIfInBounds_toArray, List.set_cons_zero, List.set_cons_succ]
    refine rg_done (by kernel_rfl) ?_
    go_wp2_with fail
    go_ret
    exact ⟨rfl, hw0.trans (Below.mono hS2 hw0.size)⟩

set_option maxRecDepth 100000 in
set_option maxHeartbeats 8000000 in
theorem tag_clash (A : Option Addr) (n c : Nat) (l : List UInt8) (B : Option Addr) (m d : Nat) (k : List UInt8) (w : World) (h1 : Tx w A n c l) (h2 : Tx w B m d k) (hn : n ≤ 140737488351232) (hm : m ≤ 140737488351232) :
    Calls Try.prog 15 #[.agg #[.slice A n c, .slice B m d]] w fun e w' => e = .returned (.bool true) ∧ Below w.heap.size w w' := by
  have hml : (140737488351232 : Nat) + 5 ≤ maxLen := by unfold maxLen; omega
  have b1 : Blk (w.alloc (.cells #[.slice A n c, .slice B m d] 124)) w.heap.size 124 [.slice A n c, .slice B m d] := Blk.new w 124 [.slice A n c, .slice B m d]
  have hw0 : Below w.heap.size w (w.alloc (.cells #[.slice A n c, .slice B m d] 124)) := (Below.refl _ _).alloc (Nat.le_refl _) _
  have R1 := fun (u : World) (hu : Below w.heap.size w u) => Lib.hid (rsum_tx A n c l u (h1.below hu) hn)
  have R2 := fun (u : World) (hu : Below w.heap.size w u) => Lib.hid (rsum_tx B m d k u (h2.below hu) hm)
  have LB1 : ∀ u : World, Below w.heap.size w u → Hid (Calls Try.prog 25 #[.slice A n c] u fun e w' => ∃ g, e = .returned (.slice (some ⟨g, 0, none⟩) n (n + 5)) ∧ Blk w' g 5 (bvs (lentAll l)) ∧ Below u.heap.size u w') := fun u hu => Lib.hid ((lent A n c l u (h1.below hu).rd h1.len hn).mono (by
    rintro e w' ⟨rfl, hb, hw, _⟩; exact ⟨_, rfl, hb, hw⟩))
  have LB2 : ∀ u : World, Below w.heap.size w u → Hid (Calls Try.prog 25 #[.slice B m d] u fun e w' => ∃ g, e = .returned (.slice (some ⟨g, 0, none⟩) m (m + 5)) ∧ Blk w' g 5 (bvs (lentAll k)) ∧ Below u.heap.size u w') := fun u hu => Lib.hid ((lent B m d k u (h2.below hu).rd h2.len hm).mono (by
    rintro e w' ⟨rfl, hb, hw, _⟩; exact ⟨_, rfl, hb, hw⟩))
  have CL := fun (g1 g2 : Nat) (u : World) (x1 : Blk u g1 5 (bvs (lentAll l))) (x2 : Blk u g2 5 (bvs (lentAll k))) => Lib.hid (clash_any (some ⟨g1, 0, none⟩) n (n + 5) l (some ⟨g2, 0, none⟩) m (m + 5) k u ⟨h1.len, by omega, by omega, lent_rd0 x1, fun _ _ h => h⟩ ⟨h2.len, by omega, by omega, lent_rd0 x2, fun _ _ h => h⟩ hn hm)
  have K1 := fun (g1 : Nat) (u : World) (hu : Below w.heap.size w u) (x1 : Blk u g1 5 (bvs (lentAll l))) => Lib.hid (kept_bytes ⟨g1, 0, none⟩ A n c l u (h1.below hu).rd h1.len hn (Rd.of_blk0 (es := []) (by simpa using x1)))
  have K2 := fun (g1 : Nat) (u : World) (hu : Below w.heap.size w u) (x1 : Blk u g1 5 (bvs (lentAll k))) => Lib.hid (kept_bytes ⟨g1, 0, none⟩ B m d k u (h2.below hu).rd h2.len hm (Rd.of_blk0 (es := []) (by simpa using x1)))
  have SM := fun (u : World) (hu : Below w.heap.size w u) => Lib.hid (same_tx A n c l B m d k u (h1.below hu) (h2.below hu) (l == k) rfl)
  have DE := fun u => Lib.hid (empty_any u)
  have RE := fun u => Lib.hid (rempty_any u)
  have HDE : Hid ((shaL [0]).length = 32) := Lib.hid (shaL_length _)
  have HL1 : Hid ((shaL l).length = 32) := Lib.hid (shaL_length _)
  have HL2 : Hid ((shaL k).length = 32) := Lib.hid (shaL_length _)
  obtain ⟨R, hR⟩ : ∃ R, clashB l k = R := ⟨_, rfl⟩
  obtain ⟨E, hE⟩ : ∃ E, (l == k) = E := ⟨_, rfl⟩
  obtain ⟨D, hD⟩ : ∃ D, (shaL l == shaL k) = D := ⟨_, rfl⟩
  have hRR : R = (!E && D) := by rw [← hR, ← hE, ← hD]; rfl
  rw [hR] at CL
  rw [hE] at SM
  have HD := Lib.hid hD
  clear hR hE hD h1 h2
  generalize shaL [0] = dE at *
  generalize shaL l = dl at *
  generalize shaL k = dk at *
  unfold arr8 at *
  go_enter Try.func15, Try.ntmps15
  go_upto_region 1 with fail
  generalize hW : World.alloc w _ = w0
  have h3 : Blk w0 w.heap.size 124 [.slice A n c, .slice B m d] ∧ Below w.heap.size w w0 := by rw [← hW]; exact ⟨b1, hw0⟩
  clear hW b1 hw0
  obtain ⟨b1, hw0⟩ := h3
  have hg := b1.lt
  have z22 : ∀ u : World, Hid (Blk (u.alloc (.cells (bvs (zb 32)).toArray 22)) u.heap.size 22 (bvs (zb 32))) := fun u => Lib.hid (Blk.new _ _ _)
  refine wp_region_lit ?_
  refine wpList_yield rfl _ (exec_g0 _ rfl w.heap.size rfl) ?_
  simp only [Act.put, List.setIfInBounds_toArray, List.set_cons_zero, List.set_cons_succ]
  refine wpList_yield rfl _ (exec_load24 _ rfl _ _ rfl (pair_blk b1).1) ?_
  simp only [Act.put, List.setIfInBounds_toArray, List.set_cons_zero, List.set_cons_succ]
  refine wpList_plain rfl fun K hK => ?_; go_simp
  with_reducible refine (R1 _ hw0).out.mono ?_
  rintro e w1 ⟨rfl, hw1⟩
  refine hK _ _ ?_; clear hK
  (try simp only [Act.put, List.setIfInBounds_toArray, List.set_cons_zero, List.set_cons_succ])
  refine wpList_plain rfl fun K hK => ?_; go_simp
  refine hK _ _ ?_; clear hK
  (try simp only [Act.put, List.setIfInBounds_toArray, List.set_cons_zero, List.set_cons_succ])
  refine wpList_store_at at22w.i rfl (.tmp 3) (.tmp 9) rfl w1.heap.size 0 22 (bvs (zb 32)) (bvs dl) rfl rfl (z22 w1).out (by rw [bvs_length]; exact HL1.out) (by rw [bvs_length, zb_length]; omega) (bvs_one _) ?_
  intro w2 hb2 hg2 hs2
  (try simp only [Act.put, List.setIfInBounds_toArray, List.set_cons_zero, List.set_cons_succ])
  refine wpList_nil ?_
  rw [splice_all _ _ (by rw [bvs_length, bvs_length, zb_length, HL1.out])] at hb2
  have hB12 : Below w1.heap.size w1 w2 := ((Below.refl w1.heap.size w1).alloc (Nat.le_refl _) _).grown hg2 (by simp) (by intro k hk; cases hk; exact Nat.le_refl _)
  have hB2 : Below w0.heap.size w0 w2 := hw1.trans (hB12.mono hw1.size)
  have hw2 := hw0.trans (hB2.mono hw0.size)
  have c1 := b1.below hB2 b1.lt
  go_upto_region 2 with fail
  refine wp_region_lit ?_
  refine wpList_yield rfl _ (exec_g1 _ rfl w.heap.size rfl) ?_
  simp only [Act.put, List.setIfInBounds_toArray, List.set_cons_zero, List.set_cons_succ]
  refine wpList_yield rfl _ (exec_load24 _ rfl _ _ rfl (pair_blk c1).2) ?_
  simp only [Act.put, List.setIfInBounds_toArray, List.set_cons_zero, List.set_cons_succ]
  refine wpList_plain rfl fun K hK => ?_; go_simp
  with_reducible refine (R2 _ hw2).out.mono ?_
  rintro e w3 ⟨rfl, hw3⟩
  refine hK _ _ ?_; clear hK
  (try simp only [Act.put, List.setIfInBounds_toArray, List.set_cons_zero, List.set_cons_succ])
  refine wpList_plain rfl fun K hK => ?_; go_simp
  refine hK _ _ ?_; clear hK
  (try simp only [Act.put, List.setIfInBounds_toArray, List.set_cons_zero, List.set_cons_succ])
  refine wpList_store_at at22w.i rfl (.tmp 4) (.tmp 12) rfl w3.heap.size 0 22 (bvs (zb 32)) (bvs dk) rfl rfl (z22 w3).out (by rw [bvs_length]; exact HL2.out) (by rw [bvs_length, zb_length]; omega) (bvs_one _) ?_
  intro w4 hb4 hg4 hs4
  (try simp only [Act.put, List.setIfInBounds_toArray, List.set_cons_zero, List.set_cons_succ])
  refine wpList_nil ?_
  rw [splice_all _ _ (by rw [bvs_length, bvs_length, zb_length, HL2.out])] at hb4
  have hB34 : Below w3.heap.size w3 w4 := ((Below.refl w3.heap.size w3).alloc (Nat.le_refl _) _).grown hg4 (by simp) (by intro k hk; cases hk; exact Nat.le_refl _)
  have hB24 : Below w2.heap.size w2 w4 := hw3.trans (hB34.mono hw3.size)
  have hB4 : Below w0.heap.size w0 w4 := hB2.trans (hB24.mono hB2.size)
  have hw4 := hw0.trans (hB4.mono hw0.size)
  have c2 := b1.below hB4 b1.lt
  have hb3 := hb2.below hB24 hb2.lt
  clear hB12 hB2 hB34 hB24 hw1 hw2 hw3 hg2 hg4 hs2 hs4 hb2 c1 z22 R1 R2
  generalize w1.heap.size = G3 at *
  generalize w3.heap.size = G4 at *
  go_upto_region 3 with fail
  have HW : ∀ Q : Prop, (E = true → Q) → (E = false → Q) → Q := fun Q x y => by cases E; exact y rfl; exact x rfl
  refine HW _ (fun hE => ?_) (fun hE => ?_)
  · subst hE
    obtain rfl : R = false := by simpa using hRR
    clear hRR HW
    refine wp_region_lit ?_
    refine wpList_yield rfl _ (exec_g0 _ rfl w.heap.size rfl) ?_
    simp only [Act.put, List.setIfInBounds_toArray, List.set_cons_zero, List.set_cons_succ]
    refine wpList_yield rfl _ (exec_load24 _ rfl _ _ rfl (pair_blk c2).1) ?_
    simp only [Act.put, List.setIfInBounds_toArray, List.set_cons_zero, List.set_cons_succ]
    refine wpList_yield rfl _ (exec_g1 _ rfl w.heap.size rfl) ?_
    simp only [Act.put, List.setIfInBounds_toArray, List.set_cons_zero, List.set_cons_succ]
    refine wpList_yield rfl _ (exec_load24 _ rfl _ _ rfl (pair_blk c2).2) ?_
    simp only [Act.put, List.setIfInBounds_toArray, List.set_cons_zero, List.set_cons_succ]
    refine wpList_plain rfl fun K hK => ?_; go_simp
    with_reducible refine (SM _ hw4).out.mono ?_
    rintro e _ ⟨rfl, rfl⟩
    refine hK _ _ ?_; clear hK
    (try simp only [Act.put, List.setIfInBounds_toArray, List.set_cons_zero, List.set_cons_succ])
    refine wpList_yield rfl ?vp3_5 ?yp3_5 ?_
    case yp3_5 => go_simp; try with_reducible rfl
    simp only [Act.put, List.setIfInBounds_toArray, List.set_cons_zero, List.set_cons_succ]
    refine wpList_yield rfl _ (exec_move _ rfl) ?_
    simp only [Act.put, Act.eval, Array.getD_eq_getD_getElem?, List.getElem?_toArray, List.getElem?_cons_succ, List.getElem?_cons_zero, Option.getD_some, List.setIfInBounds_toArray, List.set_cons_zero, List.set_cons_succ]
    refine wpList_skip_w rfl ?_
    simp only [Act.put, List.setIfInBounds_toArray, List.set_cons_zero, List.set_cons_succ]
    refine wpList_skip_w rfl ?_
    simp only [Act.put, List.setIfInBounds_toArray, List.set_cons_zero, List.set_cons_succ]
    refine wpList_skip_w rfl ?_
    simp only [Act.put, List.setIfInBounds_toArray, List.set_cons_zero, List.set_cons_succ]
    refine wpList_yield rfl ?vp4_10 ?yp4_10 ?_
    case yp4_10 => go_simp; try with_reducible rfl
    simp only [Act.put, List.setIfInBounds_toArray, List.set_cons_zero, List.set_cons_succ]
    refine wpList_yield rfl _ (exec_assign _ rfl) ?_
    simp only [Act.put, Act.eval, Array.getD_eq_getD_getElem?, List.getElem?_toArray, List.getElem?_cons_succ, List.getElem?_cons_zero, Option.getD_some, List.setIfInBounds_toArray, List.set_cons_zero, List.set_cons_succ]
    refine wpList_nil ?_
    go_upto_region 4 with fail
    refine rg_begin (Below w4.heap.size w4) [8] [2, 5, 7, 8] [0, 1, 3, 4] 5 mixed (by kernel_rfl) (fun _ _ _ _ e hh => ⟨e.symm.trans hh.1, hh.2⟩) ?_
    simp only [pick, List.map_cons, List.map_nil, List.getD_cons_zero, List.getD_cons_succ]
    have hS : (Below w4.heap.size w4) _ := (Below.refl _ _).drew
    generalize w4.drew = wc at *
    refine rg_take rfl rfl hS (fun W hW => exec_g0 _ rfl w.heap.size rfl) ?_
    simp only [Act.put, List.setIfInBounds_toArray, List.set_cons_zero, List.set_cons_succ]
    refine rg_take rfl rfl hS (fun W hW => exec_load24 _ rfl _ _ rfl (pair_blk (c2.below hW c2.lt)).1) ?_
    simp only [Act.put, List.setIfInBounds_toArray, List.set_cons_zero, List.set_cons_succ]
    refine rg_take rfl rfl hS (fun W hW => exec_g1 _ rfl w.heap.size rfl) ?_
    simp only [Act.put, List.setIfInBounds_toArray, List.set_cons_zero, List.set_cons_succ]
    refine rg_take rfl rfl hS (fun W hW => exec_load24 _ rfl _ _ rfl (pair_blk (c2.below hW c2.lt)).2) ?_
    simp only [Act.put, List.setIfInBounds_toArray, List.set_cons_zero, List.set_cons_succ]
    refine rg_fork [2, 7] (by kernel_rfl) ?_
    simp only [pick, List.map_cons, List.map_nil, List.getD_cons_zero, List.getD_cons_succ]
    refine ⟨⟨rfl, ?_⟩, ⟨rfl, ?_⟩, trivial⟩
    · intro K hK; go_simp
      with_reducible refine (LB1 _ (hw4.trans (Below.mono hS hw4.size))).out.mono ?_
      rintro e wc ⟨g1, rfl, x1, y1⟩
      (try have xz := xz.below y1 xz.lt)
      have hS := hS.trans (y1.mono hS.size)
      refine hK _ _ (fun _ => hS) ?_; clear hK
      refine rg_fork [5, 7] (by kernel_rfl) ?_
      simp only [pick, List.map_cons, List.map_nil, List.getD_cons_zero, List.getD_cons_succ]
      refine ⟨⟨rfl, ?_⟩, ⟨rfl, ?_⟩, trivial⟩
      · intro K hK; go_simp
        with_reducible refine (LB2 _ (hw4.trans (Below.mono hS hw4.size))).out.mono ?_
        rintro e wc ⟨g2, rfl, x2, y2⟩
        have x1 := x1.below y2 x1.lt
        (try have xz := xz.below y2 xz.lt)
        have hS := hS.trans (y2.mono hS.size)
        refine hK _ _ (fun _ => hS) ?_; clear hK
        refine rg_more [6, 7, 8] 0 (by kernel_rfl) ?_
        simp only [pick, List.map_cons, List.map_nil, List.getD_cons_zero, List.getD_cons_succ]
        refine rg_take rfl rfl hS (fun W hW => exec_build _ rfl #[.slice (some ⟨g1, 0, none⟩) n (n + 5), .slice (some ⟨g2, 0, none⟩) m (m + 5)] (by kernel_rfl)) ?_
        simp only [Act.put, List.setIfInBounds_toArray, List.set_cons_zero, List.set_cons_succ]
        refine rg_one rfl rfl ?_; intro K hK; go_simp
        have hn : Below wc.heap.size wc (wc.alloc (.cells #[.slice none 0 0, .slice none 0 0] 124)) := (Below.refl _ _).alloc (Nat.le_refl _) _
        have xz : Blk (wc.alloc (.cells #[.slice none 0 0, .slice none 0 0] 124)) wc.heap.size 124 [.slice none 0 0, .slice none 0 0] := Blk.new wc 124 [.slice none 0 0, .slice none 0 0]
        have hgz0 : w4.heap.size ≤ wc.heap.size := hS.size
        (try have x1 := x1.below hn x1.lt)
        (try have x2 := x2.below hn x2.lt)
        have hS := hS.trans (hn.mono hS.size)
        refine hK _ _ (fun _ => hS) ?_; clear hK hn
        generalize (wc.alloc (.cells #[.slice none 0 0, .slice none 0 0] 124)) = wn at *
        generalize wc.heap.size = gz at *
        rename World => wc
        refine rg_one rfl rfl ?_; intro K hK
        refine wp_store_at at124.i (.tmp 6) (.tmp 30) rfl gz 0 124 [.slice none 0 0, .slice none 0 0] [.slice (some ⟨g1, 0, none⟩) n (n + 5), .slice (some ⟨g2, 0, none⟩) m (m + 5)] rfl rfl xz rfl (Nat.le_refl 2) (by simp [Value.oneCell']) ?_
        intro wz hbz hgz hsz
        refine hK _ _ (fun h => by cases h) ?_; clear hK
        refine rg_done (by kernel_rfl) ?_
        rw [splice_all _ _ (by rfl)] at hbz
        have q1 := x1.grown hgz (fun e => x1.ne xz (by decide) (Option.some.inj e))
        have q2 := x2.grown hgz (fun e => x2.ne xz (by decide) (Option.some.inj e))
        have hS6 : Below w4.heap.size w4 wz := hS.grown hgz hS.size (by intro k hk; cases hk; exact hgz0)
        have hw6 := hw4.trans (hS6.mono hw4.size)
        have c6 := c2.below hS6 c2.lt
        go_upto_region 5 with fail
        refine wp_region_lit ?_
        refine wpList_yield rfl _ (exec_load_agg at124 (.tmp 6) rfl gz 124 _ rfl hbz rfl) ?_
        simp only [Act.put, List.setIfInBounds_toArray, List.set_cons_zero, List.set_cons_succ]
        refine wpList_plain rfl fun K hK => ?_; go_simp
        with_reducible refine (CL g1 g2 wz q1 q2).out.mono ?_
        rintro e w7 ⟨rfl, hw7⟩
        have hb7 := hbz.below hw7 hbz.lt
        have q3 := q1.below hw7 q1.lt
        have q4 := q2.below hw7 q2.lt
        have c7 := c6.below hw7 c6.lt
        have hw07 := bthen hw6 hw7 hw6.size
        refine hK _ _ ?_; clear hK
        (try simp only [Act.put, List.setIfInBounds_toArray, List.set_cons_zero, List.set_cons_succ])
        refine wpList_yield rfl _ (exec_move _ rfl) ?_
        simp only [Act.put, Act.eval, Array.getD_eq_getD_getElem?, List.getElem?_toArray, List.getElem?_cons_succ, List.getElem?_cons_zero, Option.getD_some, List.setIfInBounds_toArray, List.set_cons_zero, List.set_cons_succ]
        refine wpList_yield rfl ?vp17_3 ?yp17_3 ?_
        case yp17_3 => go_simp; try with_reducible rfl
        simp only [Act.put, List.setIfInBounds_toArray, List.set_cons_zero, List.set_cons_succ]
        refine wpList_yield rfl _ (exec_move _ rfl) ?_
        simp only [Act.put, Act.eval, Array.getD_eq_getD_getElem?, List.getElem?_toArray, List.getElem?_cons_succ, List.getElem?_cons_zero, Option.getD_some, List.setIfInBounds_toArray, List.set_cons_zero, List.set_cons_succ]
        refine wpList_yield_w rfl _ (exec_g0 _ rfl gz rfl) ?_
        simp only [Act.put, List.setIfInBounds_toArray, List.set_cons_zero, List.set_cons_succ]
        refine wpList_yield_w rfl _ (exec_load24 _ rfl _ _ rfl (pair_blk hb7).1) ?_
        simp only [Act.put, List.setIfInBounds_toArray, List.set_cons_zero, List.set_cons_succ]
        refine wpList_yield_w rfl _ (exec_g0 _ rfl w.heap.size rfl) ?_
        simp only [Act.put, List.setIfInBounds_toArray, List.set_cons_zero, List.set_cons_succ]
        refine wpList_yield_w rfl _ (exec_load24 _ rfl _ _ rfl (pair_blk c7).1) ?_
        simp only [Act.put, List.setIfInBounds_toArray, List.set_cons_zero, List.set_cons_succ]
        refine wpList_plain_w rfl fun K hK => ?_; go_simp
        with_reducible refine (K1 g1 w7 hw07 q3).out.mono ?_
        rintro e w8 ⟨rfl, hw8⟩
        have hb8 := hb7.below hw8 hb7.lt
        have q5 := q4.below hw8 q4.lt
        have c8 := c7.below hw8 c7.lt
        have hw08 := bthen hw07 hw8 hw07.size
        refine hK _ _ ?_; clear hK
        (try simp only [Act.put, List.setIfInBounds_toArray, List.set_cons_zero, List.set_cons_succ])
        refine wpList_yield rfl ?vp18_10 ?yp18_10 ?_
        case yp18_10 => go_simp; try with_reducible rfl
        simp only [Act.put, List.setIfInBounds_toArray, List.set_cons_zero, List.set_cons_succ]
        refine wpList_yield rfl _ (exec_move _ rfl) ?_
        simp only [Act.put, Act.eval, Array.getD_eq_getD_getElem?, List.getElem?_toArray, List.getElem?_cons_succ, List.getElem?_cons_zero, Option.getD_some, List.setIfInBounds_toArray, List.set_cons_zero, List.set_cons_succ]
        refine wpList_yield_w rfl _ (exec_g1 _ rfl gz rfl) ?_
        simp only [Act.put, List.setIfInBounds_toArray, List.set_cons_zero, List.set_cons_succ]
        refine wpList_yield_w rfl _ (exec_load24 _ rfl _ _ rfl (pair_blk hb8).2) ?_
        simp only [Act.put, List.setIfInBounds_toArray, List.set_cons_zero, List.set_cons_succ]
        refine wpList_yield_w rfl _ (exec_g1 _ rfl w.heap.size rfl) ?_
        simp only [Act.put, List.setIfInBounds_toArray, List.set_cons_zero, List.set_cons_succ]
        refine wpList_yield_w rfl _ (exec_load24 _ rfl _ _ rfl (pair_blk c8).2) ?_
        simp only [Act.put, List.setIfInBounds_toArray, List.set_cons_zero, List.set_cons_succ]
        refine wpList_plain_w rfl fun K hK => ?_; go_simp
        with_reducible refine (K2 g2 w8 hw08 q5).out.mono ?_
        rintro e w9 ⟨rfl, hw9⟩
        have hw09 := bthen hw08 hw9 hw08.size
        refine hK _ _ ?_; clear hK
        (try simp only [Act.put, List.setIfInBounds_toArray, List.set_cons_zero, List.set_cons_succ])
        refine wpList_yield rfl ?vp19_17 ?yp19_17 ?_
        case yp19_17 => go_simp; try with_reducible rfl
        simp only [Act.put, List.setIfInBounds_toArray, List.set_cons_zero, List.set_cons_succ]
        refine wpList_yield rfl _ (exec_move _ rfl) ?_
        simp only [Act.put, Act.eval, Array.getD_eq_getD_getElem?, List.getElem?_toArray, List.getElem?_cons_succ, List.getElem?_cons_zero, Option.getD_some, List.setIfInBounds_toArray, List.set_cons_zero, List.set_cons_succ]
        refine wpList_plain_w rfl fun K hK => ?_; go_simp
        with_reducible refine (DE _).out.mono ?_
        rintro e w10 ⟨rfl, hw10⟩
        have hw010 := bthen hw09 hw10 hw09.size
        refine hK _ _ ?_; clear hK
        (try simp only [Act.put, List.setIfInBounds_toArray, List.set_cons_zero, List.set_cons_succ])
        refine wpList_plain_w rfl fun K hK => ?_; go_simp
        with_reducible refine (RE _).out.mono ?_
        rintro e w11 ⟨rfl, hw11⟩
        have hw011 := bthen hw010 hw11 hw010.size
        refine hK _ _ ?_; clear hK
        (try simp only [Act.put, List.setIfInBounds_toArray, List.set_cons_zero, List.set_cons_succ])
        refine wpList_yield_w rfl _ (exec_eql_same ab25 _ _ rfl dE rfl rfl HDE.out) ?_
        simp only [Act.put, List.setIfInBounds_toArray, List.set_cons_zero, List.set_cons_succ]
        refine wpList_yield rfl ?vp20_22 ?yp20_22 ?_
        case yp20_22 => go_simp; try with_reducible rfl
        simp only [Act.put, List.setIfInBounds_toArray, List.set_cons_zero, List.set_cons_succ]
        refine wpList_yield rfl _ (exec_assign _ rfl) ?_
        simp only [Act.put, Act.eval, Array.getD_eq_getD_getElem?, List.getElem?_toArray, List.getElem?_cons_succ, List.getElem?_cons_zero, Option.getD_some, List.setIfInBounds_toArray, List.set_cons_zero, List.set_cons_succ]
        refine wpList_nil ?_
        go_wp2_with fail
        go_ret
        exact ⟨rfl, hw011⟩
      · intro K hK; go_simp
        have hn : Below wc.heap.size wc (wc.alloc (.cells #[.slice none 0 0, .slice none 0 0] 124)) := (Below.refl _ _).alloc (Nat.le_refl _) _
        have xz : Blk (wc.alloc (.cells #[.slice none 0 0, .slice none 0 0] 124)) wc.heap.size 124 [.slice none 0 0, .slice none 0 0] := Blk.new wc 124 [.slice none 0 0, .slice none 0 0]
        have hgz0 : w4.heap.size ≤ wc.heap.size := hS.size
        (try have x1 := x1.below hn x1.lt)
        (try have x2 := x2.below hn x2.lt)
        have hS := hS.trans (hn.mono hS.size)
        refine hK _ _ (fun _ => hS) ?_; clear hK hn
        generalize (wc.alloc (.cells #[.slice none 0 0, .slice none 0 0] 124)) = wn at *
        generalize wc.heap.size = gz at *
        rename World => wc
        refine rg_more [5, 6, 8] 0 (by kernel_rfl) ?_
        simp only [pick, List.map_cons, List.map_nil, List.getD_cons_zero, List.getD_cons_succ]
        refine rg_one rfl rfl ?_; intro K hK; go_simp
        with_reducible refine (LB2 _ (hw4.trans (Below.mono hS hw4.size))).out.mono ?_
        rintro e wc ⟨g2, rfl, x2, y2⟩
        have x1 := x1.below y2 x1.lt
        (try have xz := xz.below y2 xz.lt)
        have hS := hS.trans (y2.mono hS.size)
        refine hK _ _ (fun _ => hS) ?_; clear hK
        refine rg_take rfl rfl hS (fun W hW => exec_build _ rfl #[.slice (some ⟨g1, 0, none⟩) n (n + 5), .slice (some ⟨g2, 0, none⟩) m (m + 5)] (by kernel_rfl)) ?_
        simp only [Act.put, List.setIfInBounds_toArray, List.set_cons_zero, List.set_cons_succ]
        refine rg_one rfl rfl ?_; intro K hK
        refine wp_store_at at124.i (.tmp 6) (.tmp 30) rfl gz 0 124 [.slice none 0 0, .slice none 0 0] [.slice (some ⟨g1, 0, none⟩) n (n + 5), .slice (some ⟨g2, 0, none⟩) m (m + 5)] rfl rfl xz rfl (Nat.le_refl 2) (by simp [Value.oneCell']) ?_
        intro wz hbz hgz hsz
        refine hK _ _ (fun h => by cases h) ?_; clear hK
        refine rg_done (by kernel_rfl) ?_
        rw [splice_all _ _ (by rfl)] at hbz
        have q1 := x1.grown hgz (fun e => x1.ne xz (by decide) (Option.some.inj e))
        have q2 := x2.grown hgz (fun e => x2.ne xz (by decide) (Option.some.inj e))
        have hS6 : Below w4.heap.size w4 wz := hS.grown hgz hS.size (by intro k hk; cases hk; exact hgz0)
        have hw6 := hw4.trans (hS6.mono hw4.size)
        have c6 := c2.below hS6 c2.lt
        go_upto_region 5 with fail
        refine wp_region_lit ?_
        refine wpList_yield rfl _ (exec_load_agg at124 (.tmp 6) rfl gz 124 _ rfl hbz rfl) ?_
        simp only [Act.put, List.setIfInBounds_toArray, List.set_cons_zero, List.set_cons_succ]
        refine wpList_plain rfl fun K hK => ?_; go_simp
        with_reducible refine (CL g1 g2 wz q1 q2).out.mono ?_
        rintro e w7 ⟨rfl, hw7⟩
        have hb7 := hbz.below hw7 hbz.lt
        have q3 := q1.below hw7 q1.lt
        have q4 := q2.below hw7 q2.lt
        have c7 := c6.below hw7 c6.lt
        have hw07 := bthen hw6 hw7 hw6.size
        refine hK _ _ ?_; clear hK
        (try simp only [Act.put, List.setIfInBounds_toArray, List.set_cons_zero, List.set_cons_succ])
        refine wpList_yield rfl _ (exec_move _ rfl) ?_
        simp only [Act.put, Act.eval, Array.getD_eq_getD_getElem?, List.getElem?_toArray, List.getElem?_cons_succ, List.getElem?_cons_zero, Option.getD_some, List.setIfInBounds_toArray, List.set_cons_zero, List.set_cons_succ]
        refine wpList_yield rfl ?vp21_3 ?yp21_3 ?_
        case yp21_3 => go_simp; try with_reducible rfl
        simp only [Act.put, List.setIfInBounds_toArray, List.set_cons_zero, List.set_cons_succ]
        refine wpList_yield rfl _ (exec_move _ rfl) ?_
        simp only [Act.put, Act.eval, Array.getD_eq_getD_getElem?, List.getElem?_toArray, List.getElem?_cons_succ, List.getElem?_cons_zero, Option.getD_some, List.setIfInBounds_toArray, List.set_cons_zero, List.set_cons_succ]
        refine wpList_yield_w rfl _ (exec_g0 _ rfl gz rfl) ?_
        simp only [Act.put, List.setIfInBounds_toArray, List.set_cons_zero, List.set_cons_succ]
        refine wpList_yield_w rfl _ (exec_load24 _ rfl _ _ rfl (pair_blk hb7).1) ?_
        simp only [Act.put, List.setIfInBounds_toArray, List.set_cons_zero, List.set_cons_succ]
        refine wpList_yield_w rfl _ (exec_g0 _ rfl w.heap.size rfl) ?_
        simp only [Act.put, List.setIfInBounds_toArray, List.set_cons_zero, List.set_cons_succ]
        refine wpList_yield_w rfl _ (exec_load24 _ rfl _ _ rfl (pair_blk c7).1) ?_
        simp only [Act.put, List.setIfInBounds_toArray, List.set_cons_zero, List.set_cons_succ]
        refine wpList_plain_w rfl fun K hK => ?_; go_simp
        with_reducible refine (K1 g1 w7 hw07 q3).out.mono ?_
        rintro e w8 ⟨rfl, hw8⟩
        have hb8 := hb7.below hw8 hb7.lt
        have q5 := q4.below hw8 q4.lt
        have c8 := c7.below hw8 c7.lt
        have hw08 := bthen hw07 hw8 hw07.size
        refine hK _ _ ?_; clear hK
        (try simp only [Act.put, List.setIfInBounds_toArray, List.set_cons_zero, List.set_cons_succ])
        refine wpList_yield rfl ?vp22_10 ?yp22_10 ?_
        case yp22_10 => go_simp; try with_reducible rfl
        simp only [Act.put, List.setIfInBounds_toArray, List.set_cons_zero, List.set_cons_succ]
        refine wpList_yield rfl _ (exec_move _ rfl) ?_
        simp only [Act.put, Act.eval, Array.getD_eq_getD_getElem?, List.getElem?_toArray, List.getElem?_cons_succ, List.getElem?_cons_zero, Option.getD_some, List.setIfInBounds_toArray, List.set_cons_zero, List.set_cons_succ]
        refine wpList_yield_w rfl _ (exec_g1 _ rfl gz rfl) ?_
        simp only [Act.put, List.setIfInBounds_toArray, List.set_cons_zero, List.set_cons_succ]
        refine wpList_yield_w rfl _ (exec_load24 _ rfl _ _ rfl (pair_blk hb8).2) ?_
        simp only [Act.put, List.setIfInBounds_toArray, List.set_cons_zero, List.set_cons_succ]
        refine wpList_yield_w rfl _ (exec_g1 _ rfl w.heap.size rfl) ?_
        simp only [Act.put, List.setIfInBounds_toArray, List.set_cons_zero, List.set_cons_succ]
        refine wpList_yield_w rfl _ (exec_load24 _ rfl _ _ rfl (pair_blk c8).2) ?_
        simp only [Act.put, List.setIfInBounds_toArray, List.set_cons_zero, List.set_cons_succ]
        refine wpList_plain_w rfl fun K hK => ?_; go_simp
        with_reducible refine (K2 g2 w8 hw08 q5).out.mono ?_
        rintro e w9 ⟨rfl, hw9⟩
        have hw09 := bthen hw08 hw9 hw08.size
        refine hK _ _ ?_; clear hK
        (try simp only [Act.put, List.setIfInBounds_toArray, List.set_cons_zero, List.set_cons_succ])
        refine wpList_yield rfl ?vp23_17 ?yp23_17 ?_
        case yp23_17 => go_simp; try with_reducible rfl
        simp only [Act.put, List.setIfInBounds_toArray, List.set_cons_zero, List.set_cons_succ]
        refine wpList_yield rfl _ (exec_move _ rfl) ?_
        simp only [Act.put, Act.eval, Array.getD_eq_getD_getElem?, List.getElem?_toArray, List.getElem?_cons_succ, List.getElem?_cons_zero, Option.getD_some, List.setIfInBounds_toArray, List.set_cons_zero, List.set_cons_succ]
        refine wpList_plain_w rfl fun K hK => ?_; go_simp
        with_reducible refine (DE _).out.mono ?_
        rintro e w10 ⟨rfl, hw10⟩
        have hw010 := bthen hw09 hw10 hw09.size
        refine hK _ _ ?_; clear hK
        (try simp only [Act.put, List.setIfInBounds_toArray, List.set_cons_zero, List.set_cons_succ])
        refine wpList_plain_w rfl fun K hK => ?_; go_simp
        with_reducible refine (RE _).out.mono ?_
        rintro e w11 ⟨rfl, hw11⟩
        have hw011 := bthen hw010 hw11 hw010.size
        refine hK _ _ ?_; clear hK
        (try simp only [Act.put, List.setIfInBounds_toArray, List.set_cons_zero, List.set_cons_succ])
        refine wpList_yield_w rfl _ (exec_eql_same ab25 _ _ rfl dE rfl rfl HDE.out) ?_
        simp only [Act.put, List.setIfInBounds_toArray, List.set_cons_zero, List.set_cons_succ]
        refine wpList_yield rfl ?vp24_22 ?yp24_22 ?_
        case yp24_22 => go_simp; try with_reducible rfl
        simp only [Act.put, List.setIfInBounds_toArray, List.set_cons_zero, List.set_cons_succ]
        refine wpList_yield rfl _ (exec_assign _ rfl) ?_
        simp only [Act.put, Act.eval, Array.getD_eq_getD_getElem?, List.getElem?_toArray, List.getElem?_cons_succ, List.getElem?_cons_zero, Option.getD_some, List.setIfInBounds_toArray, List.set_cons_zero, List.set_cons_succ]
        refine wpList_nil ?_
        go_wp2_with fail
        go_ret
        exact ⟨rfl, hw011⟩
    · intro K hK; go_simp
      have hn : Below wc.heap.size wc (wc.alloc (.cells #[.slice none 0 0, .slice none 0 0] 124)) := (Below.refl _ _).alloc (Nat.le_refl _) _
      have xz : Blk (wc.alloc (.cells #[.slice none 0 0, .slice none 0 0] 124)) wc.heap.size 124 [.slice none 0 0, .slice none 0 0] := Blk.new wc 124 [.slice none 0 0, .slice none 0 0]
      have hgz0 : w4.heap.size ≤ wc.heap.size := hS.size
      (try have x1 := x1.below hn x1.lt)
      (try have x2 := x2.below hn x2.lt)
      have hS := hS.trans (hn.mono hS.size)
      refine hK _ _ (fun _ => hS) ?_; clear hK hn
      generalize (wc.alloc (.cells #[.slice none 0 0, .slice none 0 0] 124)) = wn at *
      generalize wc.heap.size = gz at *
      rename World => wc
      refine rg_more [2, 5, 6, 8] 0 (by kernel_rfl) ?_
      simp only [pick, List.map_cons, List.map_nil, List.getD_cons_zero, List.getD_cons_succ]
      refine rg_one rfl rfl ?_; intro K hK; go_simp
      with_reducible refine (LB1 _ (hw4.trans (Below.mono hS hw4.size))).out.mono ?_
      rintro e wc ⟨g1, rfl, x1, y1⟩
      (try have xz := xz.below y1 xz.lt)
      have hS := hS.trans (y1.mono hS.size)
      refine hK _ _ (fun _ => hS) ?_; clear hK
      refine rg_one rfl rfl ?_; intro K hK; go_simp
      with_reducible refine (LB2 _ (hw4.trans (Below.mono hS hw4.size))).out.mono ?_
      rintro e wc ⟨g2, rfl, x2, y2⟩
      have x1 := x1.below y2 x1.lt
      (try have xz := xz.below y2 xz.lt)
      have hS := hS.trans (y2.mono hS.size)
      refine hK _ _ (fun _ => hS) ?_; clear hK
      refine rg_take rfl rfl hS (fun W hW => exec_build _ rfl #[.slice (some ⟨g1, 0, none⟩) n (n + 5), .slice (some ⟨g2, 0, none⟩) m (m + 5)] (by kernel_rfl)) ?_
      simp only [Act.put, List.setIfInBounds_toArray, List.set_cons_zero, List.set_cons_succ]
      refine rg_one rfl rfl ?_; intro K hK
      refine wp_store_at at124.i (.tmp 6) (.tmp 30) rfl gz 0 124 [.slice none 0 0, .slice none 0 0] [.slice (some ⟨g1, 0, none⟩) n (n + 5), .slice (some ⟨g2, 0, none⟩) m (m + 5)] rfl rfl xz rfl (Nat.le_refl 2) (by simp [Value.oneCell']) ?_
      intro wz hbz hgz hsz
      refine hK _ _ (fun h => by cases h) ?_; clear hK
      refine rg_done (by kernel_rfl) ?_
      rw [splice_all _ _ (by rfl)] at hbz
      have q1 := x1.grown hgz (fun e => x1.ne xz (by decide) (Option.some.inj e))
      have q2 := x2.grown hgz (fun e => x2.ne xz (by decide) (Option.some.inj e))
      have hS6 : Below w4.heap.size w4 wz := hS.grown hgz hS.size (by intro k hk; cases hk; exact hgz0)
      have hw6 := hw4.trans (hS6.mono hw4.size)
      have c6 := c2.below hS6 c2.lt
      go_upto_region 5 with fail
      refine wp_region_lit ?_
      refine wpList_yield rfl _ (exec_load_agg at124 (.tmp 6) rfl gz 124 _ rfl hbz rfl) ?_
      simp only [Act.put, List.setIfInBounds_toArray, List.set_cons_zero, List.set_cons_succ]
      refine wpList_plain rfl fun K hK => ?_; go_simp
      with_reducible refine (CL g1 g2 wz q1 q2).out.mono ?_
      rintro e w7 ⟨rfl, hw7⟩
      have hb7 := hbz.below hw7 hbz.lt
      have q3 := q1.below hw7 q1.lt
      have q4 := q2.below hw7 q2.lt
      have c7 := c6.below hw7 c6.lt
      have hw07 := bthen hw6 hw7 hw6.size
      refine hK _ _ ?_; clear hK
      (try simp only [Act.put, List.setIfInBounds_toArray, List.set_cons_zero, List.set_cons_succ])
      refine wpList_yield rfl _ (exec_move _ rfl) ?_
      simp only [Act.put, Act.eval, Array.getD_eq_getD_getElem?, List.getElem?_toArray, List.getElem?_cons_succ, List.getElem?_cons_zero, Option.getD_some, List.setIfInBounds_toArray, List.set_cons_zero, List.set_cons_succ]
      refine wpList_yield rfl ?vp25_3 ?yp25_3 ?_
      case yp25_3 => go_simp; try with_reducible rfl
      simp only [Act.put, List.setIfInBounds_toArray, List.set_cons_zero, List.set_cons_succ]
      refine wpList_yield rfl _ (exec_move _ rfl) ?_
      simp only [Act.put, Act.eval, Array.getD_eq_getD_getElem?, List.getElem?_toArray, List.getElem?_cons_succ, List.getElem?_cons_zero, Option.getD_some, List.setIfInBounds_toArray, List.set_cons_zero, List.set_cons_succ]
      refine wpList_yield_w rfl _ (exec_g0 _ rfl gz rfl) ?_
      simp only [Act.put, List.setIfInBounds_toArray, List.set_cons_zero, List.set_cons_succ]
      refine wpList_yield_w rfl _ (exec_load24 _ rfl _ _ rfl (pair_blk hb7).1) ?_
      simp only [Act.put, List.setIfInBounds_toArray, List.set_cons_zero, List.set_cons_succ]
      refine wpList_yield_w rfl _ (exec_g0 _ rfl w.heap.size rfl) ?_
      simp only [Act.put, List.setIfInBounds_toArray, List.set_cons_zero, List.set_cons_succ]
      refine wpList_yield_w rfl _ (exec_load24 _ rfl _ _ rfl (pair_blk c7).1) ?_
      simp only [Act.put, List.setIfInBounds_toArray, List.set_cons_zero, List.set_cons_succ]
      refine wpList_plain_w rfl fun K hK => ?_; go_simp
      with_reducible refine (K1 g1 w7 hw07 q3).out.mono ?_
      rintro e w8 ⟨rfl, hw8⟩
      have hb8 := hb7.below hw8 hb7.lt
      have q5 := q4.below hw8 q4.lt
      have c8 := c7.below hw8 c7.lt
      have hw08 := bthen hw07 hw8 hw07.size
      refine hK _ _ ?_; clear hK
      (try simp only [Act.put, List.setIfInBounds_toArray, List.set_cons_zero, List.set_cons_succ])
      refine wpList_yield rfl ?vp26_10 ?yp26_10 ?_
      case yp26_10 => go_simp; try with_reducible rfl
      simp only [Act.put, List.setIfInBounds_toArray, List.set_cons_zero, List.set_cons_succ]
      refine wpList_yield rfl _ (exec_move _ rfl) ?_
      simp only [Act.put, Act.eval, Array.getD_eq_getD_getElem?, List.getElem?_toArray, List.getElem?_cons_succ, List.getElem?_cons_zero, Option.getD_some, List.setIfInBounds_toArray, List.set_cons_zero, List.set_cons_succ]
      refine wpList_yield_w rfl _ (exec_g1 _ rfl gz rfl) ?_
      simp only [Act.put, List.setIfInBounds_toArray, List.set_cons_zero, List.set_cons_succ]
      refine wpList_yield_w rfl _ (exec_load24 _ rfl _ _ rfl (pair_blk hb8).2) ?_
      simp only [Act.put, List.setIfInBounds_toArray, List.set_cons_zero, List.set_cons_succ]
      refine wpList_yield_w rfl _ (exec_g1 _ rfl w.heap.size rfl) ?_
      simp only [Act.put, List.setIfInBounds_toArray, List.set_cons_zero, List.set_cons_succ]
      refine wpList_yield_w rfl _ (exec_load24 _ rfl _ _ rfl (pair_blk c8).2) ?_
      simp only [Act.put, List.setIfInBounds_toArray, List.set_cons_zero, List.set_cons_succ]
      refine wpList_plain_w rfl fun K hK => ?_; go_simp
      with_reducible refine (K2 g2 w8 hw08 q5).out.mono ?_
      rintro e w9 ⟨rfl, hw9⟩
      have hw09 := bthen hw08 hw9 hw08.size
      refine hK _ _ ?_; clear hK
      (try simp only [Act.put, List.setIfInBounds_toArray, List.set_cons_zero, List.set_cons_succ])
      refine wpList_yield rfl ?vp27_17 ?yp27_17 ?_
      case yp27_17 => go_simp; try with_reducible rfl
      simp only [Act.put, List.setIfInBounds_toArray, List.set_cons_zero, List.set_cons_succ]
      refine wpList_yield rfl _ (exec_move _ rfl) ?_
      simp only [Act.put, Act.eval, Array.getD_eq_getD_getElem?, List.getElem?_toArray, List.getElem?_cons_succ, List.getElem?_cons_zero, Option.getD_some, List.setIfInBounds_toArray, List.set_cons_zero, List.set_cons_succ]
      refine wpList_plain_w rfl fun K hK => ?_; go_simp
      with_reducible refine (DE _).out.mono ?_
      rintro e w10 ⟨rfl, hw10⟩
      have hw010 := bthen hw09 hw10 hw09.size
      refine hK _ _ ?_; clear hK
      (try simp only [Act.put, List.setIfInBounds_toArray, List.set_cons_zero, List.set_cons_succ])
      refine wpList_plain_w rfl fun K hK => ?_; go_simp
      with_reducible refine (RE _).out.mono ?_
      rintro e w11 ⟨rfl, hw11⟩
      have hw011 := bthen hw010 hw11 hw010.size
      refine hK _ _ ?_; clear hK
      (try simp only [Act.put, List.setIfInBounds_toArray, List.set_cons_zero, List.set_cons_succ])
      refine wpList_yield_w rfl _ (exec_eql_same ab25 _ _ rfl dE rfl rfl HDE.out) ?_
      simp only [Act.put, List.setIfInBounds_toArray, List.set_cons_zero, List.set_cons_succ]
      refine wpList_yield rfl ?vp28_22 ?yp28_22 ?_
      case yp28_22 => go_simp; try with_reducible rfl
      simp only [Act.put, List.setIfInBounds_toArray, List.set_cons_zero, List.set_cons_succ]
      refine wpList_yield rfl _ (exec_assign _ rfl) ?_
      simp only [Act.put, Act.eval, Array.getD_eq_getD_getElem?, List.getElem?_toArray, List.getElem?_cons_succ, List.getElem?_cons_zero, Option.getD_some, List.setIfInBounds_toArray, List.set_cons_zero, List.set_cons_succ]
      refine wpList_nil ?_
      go_wp2_with fail
      go_ret
      exact ⟨rfl, hw011⟩

  · subst hE
    obtain rfl : R = D := by simpa using hRR
    clear hRR HW
    refine wp_region_lit ?_
    refine wpList_yield rfl _ (exec_g0 _ rfl w.heap.size rfl) ?_
    simp only [Act.put, List.setIfInBounds_toArray, List.set_cons_zero, List.set_cons_succ]
    refine wpList_yield rfl _ (exec_load24 _ rfl _ _ rfl (pair_blk c2).1) ?_
    simp only [Act.put, List.setIfInBounds_toArray, List.set_cons_zero, List.set_cons_succ]
    refine wpList_yield rfl _ (exec_g1 _ rfl w.heap.size rfl) ?_
    simp only [Act.put, List.setIfInBounds_toArray, List.set_cons_zero, List.set_cons_succ]
    refine wpList_yield rfl _ (exec_load24 _ rfl _ _ rfl (pair_blk c2).2) ?_
    simp only [Act.put, List.setIfInBounds_toArray, List.set_cons_zero, List.set_cons_succ]
    refine wpList_plain rfl fun K hK => ?_; go_simp
    with_reducible refine (SM _ hw4).out.mono ?_
    rintro e _ ⟨rfl, rfl⟩
    refine hK _ _ ?_; clear hK
    (try simp only [Act.put, List.setIfInBounds_toArray, List.set_cons_zero, List.set_cons_succ])
    refine wpList_yield rfl ?vp10_5 ?yp10_5 ?_
    case yp10_5 => go_simp; try with_reducible rfl
    simp only [Act.put, List.setIfInBounds_toArray, List.set_cons_zero, List.set_cons_succ]
    refine wpList_yield rfl _ (exec_move _ rfl) ?_
    simp only [Act.put, Act.eval, Array.getD_eq_getD_getElem?, List.getElem?_toArray, List.getElem?_cons_succ, List.getElem?_cons_zero, Option.getD_some, List.setIfInBounds_toArray, List.set_cons_zero, List.set_cons_succ]
    refine wpList_yield_w rfl _ (exec_load_agg at22w (.tmp 3) rfl G3 22 (bvs dl) rfl hb3 (by rw [bvs_length]; exact HL1.out)) ?_
    simp only [Act.put, List.setIfInBounds_toArray, List.set_cons_zero, List.set_cons_succ]
    refine wpList_yield_w rfl _ (exec_load_agg at22w (.tmp 4) rfl G4 22 (bvs dk) rfl hb4 (by rw [bvs_length]; exact HL2.out)) ?_
    simp only [Act.put, List.setIfInBounds_toArray, List.set_cons_zero, List.set_cons_succ]
    refine wpList_yield_w rfl _ (exec_eql_to ab22w _ _ rfl dl dk rfl rfl HL1.out HL2.out HD.out) ?_
    simp only [Act.put, List.setIfInBounds_toArray, List.set_cons_zero, List.set_cons_succ]
    refine wpList_yield rfl ?vp11_10 ?yp11_10 ?_
    case yp11_10 => go_simp; try with_reducible rfl
    simp only [Act.put, List.setIfInBounds_toArray, List.set_cons_zero, List.set_cons_succ]
    refine wpList_yield rfl _ (exec_assign _ rfl) ?_
    simp only [Act.put, Act.eval, Array.getD_eq_getD_getElem?, List.getElem?_toArray, List.getElem?_cons_succ, List.getElem?_cons_zero, Option.getD_some, List.setIfInBounds_toArray, List.set_cons_zero, List.set_cons_succ]
    refine wpList_nil ?_
    go_upto_region 4 with fail
    refine rg_begin (Below w4.heap.size w4) [8] [2, 5, 7, 8] [0, 1, 3, 4] 5 mixed (by kernel_rfl) (fun _ _ _ _ e hh => ⟨e.symm.trans hh.1, hh.2⟩) ?_
    simp only [pick, List.map_cons, List.map_nil, List.getD_cons_zero, List.getD_cons_succ]
    have hS : (Below w4.heap.size w4) _ := (Below.refl _ _).drew
    generalize w4.drew = wc at *
    refine rg_take rfl rfl hS (fun W hW => exec_g0 _ rfl w.heap.size rfl) ?_
    simp only [Act.put, List.setIfInBounds_toArray, List.set_cons_zero, List.set_cons_succ]
    refine rg_take rfl rfl hS (fun W hW => exec_load24 _ rfl _ _ rfl (pair_blk (c2.below hW c2.lt)).1) ?_
    simp only [Act.put, List.setIfInBounds_toArray, List.set_cons_zero, List.set_cons_succ]
    refine rg_take rfl rfl hS (fun W hW => exec_g1 _ rfl w.heap.size rfl) ?_
    simp only [Act.put, List.setIfInBounds_toArray, List.set_cons_zero, List.set_cons_succ]
    refine rg_take rfl rfl hS (fun W hW => exec_load24 _ rfl _ _ rfl (pair_blk (c2.below hW c2.lt)).2) ?_
    simp only [Act.put, List.setIfInBounds_toArray, List.set_cons_zero, List.set_cons_succ]
    refine rg_fork [2, 7] (by kernel_rfl) ?_
    simp only [pick, List.map_cons, List.map_nil, List.getD_cons_zero, List.getD_cons_succ]
    refine ⟨⟨rfl, ?_⟩, ⟨rfl, ?_⟩, trivial⟩
    · intro K hK; go_simp
      with_reducible refine (LB1 _ (hw4.trans (Below.mono hS hw4.size))).out.mono ?_
      rintro e wc ⟨g1, rfl, x1, y1⟩
      (try have xz := xz.below y1 xz.lt)
      have hS := hS.trans (y1.mono hS.size)
      refine hK _ _ (fun _ => hS) ?_; clear hK
      refine rg_fork [5, 7] (by kernel_rfl) ?_
      simp only [pick, List.map_cons, List.map_nil, List.getD_cons_zero, List.getD_cons_succ]
      refine ⟨⟨rfl, ?_⟩, ⟨rfl, ?_⟩, trivial⟩
      · intro K hK; go_simp
        with_reducible refine (LB2 _ (hw4.trans (Below.mono hS hw4.size))).out.mono ?_
        rintro e wc ⟨g2, rfl, x2, y2⟩
        have x1 := x1.below y2 x1.lt
        (try have xz := xz.below y2 xz.lt)
        have hS := hS.trans (y2.mono hS.size)
        refine hK _ _ (fun _ => hS) ?_; clear hK
        refine rg_more [6, 7, 8] 0 (by kernel_rfl) ?_
        simp only [pick, List.map_cons, List.map_nil, List.getD_cons_zero, List.getD_cons_succ]
        refine rg_take rfl rfl hS (fun W hW => exec_build _ rfl #[.slice (some ⟨g1, 0, none⟩) n (n + 5), .slice (some ⟨g2, 0, none⟩) m (m + 5)] (by kernel_rfl)) ?_
        simp only [Act.put, List.setIfInBounds_toArray, List.set_cons_zero, List.set_cons_succ]
        refine rg_one rfl rfl ?_; intro K hK; go_simp
        have hn : Below wc.heap.size wc (wc.alloc (.cells #[.slice none 0 0, .slice none 0 0] 124)) := (Below.refl _ _).alloc (Nat.le_refl _) _
        have xz : Blk (wc.alloc (.cells #[.slice none 0 0, .slice none 0 0] 124)) wc.heap.size 124 [.slice none 0 0, .slice none 0 0] := Blk.new wc 124 [.slice none 0 0, .slice none 0 0]
        have hgz0 : w4.heap.size ≤ wc.heap.size := hS.size
        (try have x1 := x1.below hn x1.lt)
        (try have x2 := x2.below hn x2.lt)
        have hS := hS.trans (hn.mono hS.size)
        refine hK _ _ (fun _ => hS) ?_; clear hK hn
        generalize (wc.alloc (.cells #[.slice none 0 0, .slice none 0 0] 124)) = wn at *
        generalize wc.heap.size = gz at *
        rename World => wc
        refine rg_one rfl rfl ?_; intro K hK
        refine wp_store_at at124.i (.tmp 6) (.tmp 30) rfl gz 0 124 [.slice none 0 0, .slice none 0 0] [.slice (some ⟨g1, 0, none⟩) n (n + 5), .slice (some ⟨g2, 0, none⟩) m (m + 5)] rfl rfl xz rfl (Nat.le_refl 2) (by simp [Value.oneCell']) ?_
        intro wz hbz hgz hsz
        refine hK _ _ (fun h => by cases h) ?_; clear hK
        refine rg_done (by kernel_rfl) ?_
        rw [splice_all _ _ (by rfl)] at hbz
        have q1 := x1.grown hgz (fun e => x1.ne xz (by decide) (Option.some.inj e))
        have q2 := x2.grown hgz (fun e => x2.ne xz (by decide) (Option.some.inj e))
        have hS6 : Below w4.heap.size w4 wz := hS.grown hgz hS.size (by intro k hk; cases hk; exact hgz0)
        have hw6 := hw4.trans (hS6.mono hw4.size)
        have c6 := c2.below hS6 c2.lt
        go_upto_region 5 with fail
        refine wp_region_lit ?_
        refine wpList_yield rfl _ (exec_load_agg at124 (.tmp 6) rfl gz 124 _ rfl hbz rfl) ?_
        simp only [Act.put, List.setIfInBounds_toArray, List.set_cons_zero, List.set_cons_succ]
        refine wpList_plain rfl fun K hK => ?_; go_simp
        with_reducible refine (CL g1 g2 wz q1 q2).out.mono ?_
        rintro e w7 ⟨rfl, hw7⟩
        have hb7 := hbz.below hw7 hbz.lt
        have q3 := q1.below hw7 q1.lt
        have q4 := q2.below hw7 q2.lt
        have c7 := c6.below hw7 c6.lt
        have hw07 := bthen hw6 hw7 hw6.size
        refine hK _ _ ?_; clear hK
        (try simp only [Act.put, List.setIfInBounds_toArray, List.set_cons_zero, List.set_cons_succ])
        refine wpList_yield rfl _ (exec_move _ rfl) ?_
        simp only [Act.put, Act.eval, Array.getD_eq_getD_getElem?, List.getElem?_toArray, List.getElem?_cons_succ, List.getElem?_cons_zero, Option.getD_some, List.setIfInBounds_toArray, List.set_cons_zero, List.set_cons_succ]
        refine wpList_yield rfl ?vp29_3 ?yp29_3 ?_
        case yp29_3 => go_simp; try with_reducible rfl
        simp only [Act.put, List.setIfInBounds_toArray, List.set_cons_zero, List.set_cons_succ]
        refine wpList_yield rfl _ (exec_move _ rfl) ?_
        simp only [Act.put, Act.eval, Array.getD_eq_getD_getElem?, List.getElem?_toArray, List.getElem?_cons_succ, List.getElem?_cons_zero, Option.getD_some, List.setIfInBounds_toArray, List.set_cons_zero, List.set_cons_succ]
        refine wpList_yield_w rfl _ (exec_g0 _ rfl gz rfl) ?_
        simp only [Act.put, List.setIfInBounds_toArray, List.set_cons_zero, List.set_cons_succ]
        refine wpList_yield_w rfl _ (exec_load24 _ rfl _ _ rfl (pair_blk hb7).1) ?_
        simp only [Act.put, List.setIfInBounds_toArray, List.set_cons_zero, List.set_cons_succ]
        refine wpList_yield_w rfl _ (exec_g0 _ rfl w.heap.size rfl) ?_
        simp only [Act.put, List.setIfInBounds_toArray, List.set_cons_zero, List.set_cons_succ]
        refine wpList_yield_w rfl _ (exec_load24 _ rfl _ _ rfl (pair_blk c7).1) ?_
        simp only [Act.put, List.setIfInBounds_toArray, List.set_cons_zero, List.set_cons_succ]
        refine wpList_plain_w rfl fun K hK => ?_; go_simp
        with_reducible refine (K1 g1 w7 hw07 q3).out.mono ?_
        rintro e w8 ⟨rfl, hw8⟩
        have hb8 := hb7.below hw8 hb7.lt
        have q5 := q4.below hw8 q4.lt
        have c8 := c7.below hw8 c7.lt
        have hw08 := bthen hw07 hw8 hw07.size
        refine hK _ _ ?_; clear hK
        (try simp only [Act.put, List.setIfInBounds_toArray, List.set_cons_zero, List.set_cons_succ])
        refine wpList_yield rfl ?vp30_10 ?yp30_10 ?_
        case yp30_10 => go_simp; try with_reducible rfl
        simp only [Act.put, List.setIfInBounds_toArray, List.set_cons_zero, List.set_cons_succ]
        refine wpList_yield rfl _ (exec_move _ rfl) ?_
        simp only [Act.put, Act.eval, Array.getD_eq_getD_getElem?, List.getElem?_toArray, List.getElem?_cons_succ, List.getElem?_cons_zero, Option.getD_some, List.setIfInBounds_toArray, List.set_cons_zero, List.set_cons_succ]
        refine wpList_yield_w rfl _ (exec_g1 _ rfl gz rfl) ?_
        simp only [Act.put, List.setIfInBounds_toArray, List.set_cons_zero, List.set_cons_succ]
        refine wpList_yield_w rfl _ (exec_load24 _ rfl _ _ rfl (pair_blk hb8).2) ?_
        simp only [Act.put, List.setIfInBounds_toArray, List.set_cons_zero, List.set_cons_succ]
        refine wpList_yield_w rfl _ (exec_g1 _ rfl w.heap.size rfl) ?_
        simp only [Act.put, List.setIfInBounds_toArray, List.set_cons_zero, List.set_cons_succ]
        refine wpList_yield_w rfl _ (exec_load24 _ rfl _ _ rfl (pair_blk c8).2) ?_
        simp only [Act.put, List.setIfInBounds_toArray, List.set_cons_zero, List.set_cons_succ]
        refine wpList_plain_w rfl fun K hK => ?_; go_simp
        with_reducible refine (K2 g2 w8 hw08 q5).out.mono ?_
        rintro e w9 ⟨rfl, hw9⟩
        have hw09 := bthen hw08 hw9 hw08.size
        refine hK _ _ ?_; clear hK
        (try simp only [Act.put, List.setIfInBounds_toArray, List.set_cons_zero, List.set_cons_succ])
        refine wpList_yield rfl ?vp31_17 ?yp31_17 ?_
        case yp31_17 => go_simp; try with_reducible rfl
        simp only [Act.put, List.setIfInBounds_toArray, List.set_cons_zero, List.set_cons_succ]
        refine wpList_yield rfl _ (exec_move _ rfl) ?_
        simp only [Act.put, Act.eval, Array.getD_eq_getD_getElem?, List.getElem?_toArray, List.getElem?_cons_succ, List.getElem?_cons_zero, Option.getD_some, List.setIfInBounds_toArray, List.set_cons_zero, List.set_cons_succ]
        refine wpList_plain_w rfl fun K hK => ?_; go_simp
        with_reducible refine (DE _).out.mono ?_
        rintro e w10 ⟨rfl, hw10⟩
        have hw010 := bthen hw09 hw10 hw09.size
        refine hK _ _ ?_; clear hK
        (try simp only [Act.put, List.setIfInBounds_toArray, List.set_cons_zero, List.set_cons_succ])
        refine wpList_plain_w rfl fun K hK => ?_; go_simp
        with_reducible refine (RE _).out.mono ?_
        rintro e w11 ⟨rfl, hw11⟩
        have hw011 := bthen hw010 hw11 hw010.size
        refine hK _ _ ?_; clear hK
        (try simp only [Act.put, List.setIfInBounds_toArray, List.set_cons_zero, List.set_cons_succ])
        refine wpList_yield_w rfl _ (exec_eql_same ab25 _ _ rfl dE rfl rfl HDE.out) ?_
        simp only [Act.put, List.setIfInBounds_toArray, List.set_cons_zero, List.set_cons_succ]
        refine wpList_yield rfl ?vp32_22 ?yp32_22 ?_
        case yp32_22 => go_simp; try with_reducible rfl
        simp only [Act.put, List.setIfInBounds_toArray, List.set_cons_zero, List.set_cons_succ]
        refine wpList_yield rfl _ (exec_assign _ rfl) ?_
        simp only [Act.put, Act.eval, Array.getD_eq_getD_getElem?, List.getElem?_toArray, List.getElem?_cons_succ, List.getElem?_cons_zero, Option.getD_some, List.setIfInBounds_toArray, List.set_cons_zero, List.set_cons_succ]
        refine wpList_nil ?_
        go_wp2_with fail
        go_ret
        exact ⟨rfl, hw011⟩
      · intro K hK; go_simp
        have hn : Below wc.heap.size wc (wc.alloc (.cells #[.slice none 0 0, .slice none 0 0] 124)) := (Below.refl _ _).alloc (Nat.le_refl _) _
        have xz : Blk (wc.alloc (.cells #[.slice none 0 0, .slice none 0 0] 124)) wc.heap.size 124 [.slice none 0 0, .slice none 0 0] := Blk.new wc 124 [.slice none 0 0, .slice none 0 0]
        have hgz0 : w4.heap.size ≤ wc.heap.size := hS.size
        (try have x1 := x1.below hn x1.lt)
        (try have x2 := x2.below hn x2.lt)
        have hS := hS.trans (hn.mono hS.size)
        refine hK _ _ (fun _ => hS) ?_; clear hK hn
        generalize (wc.alloc (.cells #[.slice none 0 0, .slice none 0 0] 124)) = wn at *
        generalize wc.heap.size = gz at *
        rename World => wc
        refine rg_more [5, 6, 8] 0 (by kernel_rfl) ?_
        simp only [pick, List.map_cons, List.map_nil, List.getD_cons_zero, List.getD_cons_succ]
        refine rg_one rfl rfl ?_; intro K hK; go_simp
        with_reducible refine (LB2 _ (hw4.trans (Below.mono hS hw4.size))).out.mono ?_
        rintro e wc ⟨g2, rfl, x2, y2⟩
        have x1 := x1.below y2 x1.lt
        (try have xz := xz.below y2 xz.lt)
        have hS := hS.trans (y2.mono hS.size)
        refine hK _ _ (fun _ => hS) ?_; clear hK
        refine rg_take rfl rfl hS (fun W hW => exec_build _ rfl #[.slice (some ⟨g1, 0, none⟩) n (n + 5), .slice (some ⟨g2, 0, none⟩) m (m + 5)] (by kernel_rfl)) ?_
        simp only [Act.put, List.setIfInBounds_toArray, List.set_cons_zero, List.set_cons_succ]
        refine rg_one rfl rfl ?_; intro K hK
        refine wp_store_at at124.i (.tmp 6) (.tmp 30) rfl gz 0 124 [.slice none 0 0, .slice none 0 0] [.slice (some ⟨g1, 0, none⟩) n (n + 5), .slice (some ⟨g2, 0, none⟩) m (m + 5)] rfl rfl xz rfl (Nat.le_refl 2) (by simp [Value.oneCell']) ?_
        intro wz hbz hgz hsz
        refine hK _ _ (fun h => by cases h) ?_; clear hK
        refine rg_done (by kernel_rfl) ?_
        rw [splice_all _ _ (by rfl)] at hbz
        have q1 := x1.grown hgz (fun e => x1.ne xz (by decide) (Option.some.inj e))
        have q2 := x2.grown hgz (fun e => x2.ne xz (by decide) (Option.some.inj e))
        have hS6 : Below w4.heap.size w4 wz := hS.grown hgz hS.size (by intro k hk; cases hk; exact hgz0)
        have hw6 := hw4.trans (hS6.mono hw4.size)
        have c6 := c2.below hS6 c2.lt
        go_upto_region 5 with fail
        refine wp_region_lit ?_
        refine wpList_yield rfl _ (exec_load_agg at124 (.tmp 6) rfl gz 124 _ rfl hbz rfl) ?_
        simp only [Act.put, List.setIfInBounds_toArray, List.set_cons_zero, List.set_cons_succ]
        refine wpList_plain rfl fun K hK => ?_; go_simp
        with_reducible refine (CL g1 g2 wz q1 q2).out.mono ?_
        rintro e w7 ⟨rfl, hw7⟩
        have hb7 := hbz.below hw7 hbz.lt
        have q3 := q1.below hw7 q1.lt
        have q4 := q2.below hw7 q2.lt
        have c7 := c6.below hw7 c6.lt
        have hw07 := bthen hw6 hw7 hw6.size
        refine hK _ _ ?_; clear hK
        (try simp only [Act.put, List.setIfInBounds_toArray, List.set_cons_zero, List.set_cons_succ])
        refine wpList_yield rfl _ (exec_move _ rfl) ?_
        simp only [Act.put, Act.eval, Array.getD_eq_getD_getElem?, List.getElem?_toArray, List.getElem?_cons_succ, List.getElem?_cons_zero, Option.getD_some, List.setIfInBounds_toArray, List.set_cons_zero, List.set_cons_succ]
        refine wpList_yield rfl ?vp33_3 ?yp33_3 ?_
        case yp33_3 => go_simp; try with_reducible rfl
        simp only [Act.put, List.setIfInBounds_toArray, List.set_cons_zero, List.set_cons_succ]
        refine wpList_yield rfl _ (exec_move _ rfl) ?_
        simp only [Act.put, Act.eval, Array.getD_eq_getD_getElem?, List.getElem?_toArray, List.getElem?_cons_succ, List.getElem?_cons_zero, Option.getD_some, List.setIfInBounds_toArray, List.set_cons_zero, List.set_cons_succ]
        refine wpList_yield_w rfl _ (exec_g0 _ rfl gz rfl) ?_
        simp only [Act.put, List.setIfInBounds_toArray, List.set_cons_zero, List.set_cons_succ]
        refine wpList_yield_w rfl _ (exec_load24 _ rfl _ _ rfl (pair_blk hb7).1) ?_
        simp only [Act.put, List.setIfInBounds_toArray, List.set_cons_zero, List.set_cons_succ]
        refine wpList_yield_w rfl _ (exec_g0 _ rfl w.heap.size rfl) ?_
        simp only [Act.put, List.setIfInBounds_toArray, List.set_cons_zero, List.set_cons_succ]
        refine wpList_yield_w rfl _ (exec_load24 _ rfl _ _ rfl (pair_blk c7).1) ?_
        simp only [Act.put, List.setIfInBounds_toArray, List.set_cons_zero, List.set_cons_succ]
        refine wpList_plain_w rfl fun K hK => ?_; go_simp
        with_reducible refine (K1 g1 w7 hw07 q3).out.mono ?_
        rintro e w8 ⟨rfl, hw8⟩
        have hb8 := hb7.below hw8 hb7.lt
        have q5 := q4.below hw8 q4.lt
        have c8 := c7.below hw8 c7.lt
        have hw08 := bthen hw07 hw8 hw07.size
        refine hK _ _ ?_; clear hK
        (try simp only [Act.put, List.setIfInBounds_toArray, List.set_cons_zero, List.set_cons_succ])
        refine wpList_yield rfl ?vp34_10 ?yp34_10 ?_
        case yp34_10 => go_simp; try with_reducible rfl
        simp only [Act.put, List.setIfInBounds_toArray, List.set_cons_zero, List.set_cons_succ]
        refine wpList_yield rfl _ (exec_move _ rfl) ?_
        simp only [Act.put, Act.eval, Array.getD_eq_getD_getElem?, List.getElem?_toArray, List.getElem?_cons_succ, List.getElem?_cons_zero, Option.getD_some, List.setIfInBounds_toArray, List.set_cons_zero, List.set_cons_succ]
        refine wpList_yield_w rfl _ (exec_g1 _ rfl gz rfl) ?_
        simp only [Act.put, List.setIfInBounds_toArray, List.set_cons_zero, List.set_cons_succ]
        refine wpList_yield_w rfl _ (exec_load24 _ rfl _ _ rfl (pair_blk hb8).2) ?_
        simp only [Act.put, List.setIfInBounds_toArray, List.set_cons_zero, List.set_cons_succ]
        refine wpList_yield_w rfl _ (exec_g1 _ rfl w.heap.size rfl) ?_
        simp only [Act.put, List.setIfInBounds_toArray, List.set_cons_zero, List.set_cons_succ]
        refine wpList_yield_w rfl _ (exec_load24 _ rfl _ _ rfl (pair_blk c8).2) ?_
        simp only [Act.put, List.setIfInBounds_toArray, List.set_cons_zero, List.set_cons_succ]
        refine wpList_plain_w rfl fun K hK => ?_; go_simp
        with_reducible refine (K2 g2 w8 hw08 q5).out.mono ?_
        rintro e w9 ⟨rfl, hw9⟩
        have hw09 := bthen hw08 hw9 hw08.size
        refine hK _ _ ?_; clear hK
        (try simp only [Act.put, List.setIfInBounds_toArray, List.set_cons_zero, List.set_cons_succ])
        refine wpList_yield rfl ?vp35_17 ?yp35_17 ?_
        case yp35_17 => go_simp; try with_reducible rfl
        simp only [Act.put, List.setIfInBounds_toArray, List.set_cons_zero, List.set_cons_succ]
        refine wpList_yield rfl _ (exec_move _ rfl) ?_
        simp only [Act.put, Act.eval, Array.getD_eq_getD_getElem?, List.getElem?_toArray, List.getElem?_cons_succ, List.getElem?_cons_zero, Option.getD_some, List.setIfInBounds_toArray, List.set_cons_zero, List.set_cons_succ]
        refine wpList_plain_w rfl fun K hK => ?_; go_simp
        with_reducible refine (DE _).out.mono ?_
        rintro e w10 ⟨rfl, hw10⟩
        have hw010 := bthen hw09 hw10 hw09.size
        refine hK _ _ ?_; clear hK
        (try simp only [Act.put, List.setIfInBounds_toArray, List.set_cons_zero, List.set_cons_succ])
        refine wpList_plain_w rfl fun K hK => ?_; go_simp
        with_reducible refine (RE _).out.mono ?_
        rintro e w11 ⟨rfl, hw11⟩
        have hw011 := bthen hw010 hw11 hw010.size
        refine hK _ _ ?_; clear hK
        (try simp only [Act.put, List.setIfInBounds_toArray, List.set_cons_zero, List.set_cons_succ])
        refine wpList_yield_w rfl _ (exec_eql_same ab25 _ _ rfl dE rfl rfl HDE.out) ?_
        simp only [Act.put, List.setIfInBounds_toArray, List.set_cons_zero, List.set_cons_succ]
        refine wpList_yield rfl ?vp36_22 ?yp36_22 ?_
        case yp36_22 => go_simp; try with_reducible rfl
        simp only [Act.put, List.setIfInBounds_toArray, List.set_cons_zero, List.set_cons_succ]
        refine wpList_yield rfl _ (exec_assign _ rfl) ?_
        simp only [Act.put, Act.eval, Array.getD_eq_getD_getElem?, List.getElem?_toArray, List.getElem?_cons_succ, List.getElem?_cons_zero, Option.getD_some, List.setIfInBounds_toArray, List.set_cons_zero, List.set_cons_succ]
        refine wpList_nil ?_
        go_wp2_with fail
        go_ret
        exact ⟨rfl, hw011⟩
    · intro K hK; go_simp
      have hn : Below wc.heap.size wc (wc.alloc (.cells #[.slice none 0 0, .slice none 0 0] 124)) := (Below.refl _ _).alloc (Nat.le_refl _) _
      have xz : Blk (wc.alloc (.cells #[.slice none 0 0, .slice none 0 0] 124)) wc.heap.size 124 [.slice none 0 0, .slice none 0 0] := Blk.new wc 124 [.slice none 0 0, .slice none 0 0]
      have hgz0 : w4.heap.size ≤ wc.heap.size := hS.size
      (try have x1 := x1.below hn x1.lt)
      (try have x2 := x2.below hn x2.lt)
      have hS := hS.trans (hn.mono hS.size)
      refine hK _ _ (fun _ => hS) ?_; clear hK hn
      generalize (wc.alloc (.cells #[.slice none 0 0, .slice none 0 0] 124)) = wn at *
      generalize wc.heap.size = gz at *
      rename World => wc
      refine rg_more [2, 5, 6, 8] 0 (by kernel_rfl) ?_
      simp only [pick, List.map_cons, List.map_nil, List.getD_cons_zero, List.getD_cons_succ]
      refine rg_one rfl rfl ?_; intro K hK; go_simp
      with_reducible refine (LB1 _ (hw4.trans (Below.mono hS hw4.size))).out.mono ?_
      rintro e wc ⟨g1, rfl, x1, y1⟩
      (try have xz := xz.below y1 xz.lt)
      have hS := hS.trans (y1.mono hS.size)
      refine hK _ _ (fun _ => hS) ?_; clear hK
      refine rg_one rfl rfl ?_; intro K hK; go_simp
      with_reducible refine (LB2 _ (hw4.trans (Below.mono hS hw4.size))).out.mono ?_
      rintro e wc ⟨g2, rfl, x2, y2⟩
      have x1 := x1.below y2 x1.lt
      (try have xz := xz.below y2 xz.lt)
      have hS := hS.trans (y2.mono hS.size)
      refine hK _ _ (fun _ => hS) ?_; clear hK
      refine rg_take rfl rfl hS (fun W hW => exec_build _ rfl #[.slice (some ⟨g1, 0, none⟩) n (n + 5), .slice (some ⟨g2, 0, none⟩) m (m + 5)] (by kernel_rfl)) ?_
      simp only [Act.put, List.setIfInBounds_toArray, List.set_cons_zero, List.set_cons_succ]
      refine rg_one rfl rfl ?_; intro K hK
      refine wp_store_at at124.i (.tmp 6) (.tmp 30) rfl gz 0 124 [.slice none 0 0, .slice none 0 0] [.slice (some ⟨g1, 0, none⟩) n (n + 5), .slice (some ⟨g2, 0, none⟩) m (m + 5)] rfl rfl xz rfl (Nat.le_refl 2) (by simp [Value.oneCell']) ?_
      intro wz hbz hgz hsz
      refine hK _ _ (fun h => by cases h) ?_; clear hK
      refine rg_done (by kernel_rfl) ?_
      rw [splice_all _ _ (by rfl)] at hbz
      have q1 := x1.grown hgz (fun e => x1.ne xz (by decide) (Option.some.inj e))
      have q2 := x2.grown hgz (fun e => x2.ne xz (by decide) (Option.some.inj e))
      have hS6 : Below w4.heap.size w4 wz := hS.grown hgz hS.size (by intro k hk; cases hk; exact hgz0)
      have hw6 := hw4.trans (hS6.mono hw4.size)
      have c6 := c2.below hS6 c2.lt
      go_upto_region 5 with fail
      refine wp_region_lit ?_
      refine wpList_yield rfl _ (exec_load_agg at124 (.tmp 6) rfl gz 124 _ rfl hbz rfl) ?_
      simp only [Act.put, List.setIfInBounds_toArray, List.set_cons_zero, List.set_cons_succ]
      refine wpList_plain rfl fun K hK => ?_; go_simp
      with_reducible refine (CL g1 g2 wz q1 q2).out.mono ?_
      rintro e w7 ⟨rfl, hw7⟩
      have hb7 := hbz.below hw7 hbz.lt
      have q3 := q1.below hw7 q1.lt
      have q4 := q2.below hw7 q2.lt
      have c7 := c6.below hw7 c6.lt
      have hw07 := bthen hw6 hw7 hw6.size
      refine hK _ _ ?_; clear hK
      (try simp only [Act.put, List.setIfInBounds_toArray, List.set_cons_zero, List.set_cons_succ])
      refine wpList_yield rfl _ (exec_move _ rfl) ?_
      simp only [Act.put, Act.eval, Array.getD_eq_getD_getElem?, List.getElem?_toArray, List.getElem?_cons_succ, List.getElem?_cons_zero, Option.getD_some, List.setIfInBounds_toArray, List.set_cons_zero, List.set_cons_succ]
      refine wpList_yield rfl ?vp37_3 ?yp37_3 ?_
      case yp37_3 => go_simp; try with_reducible rfl
      simp only [Act.put, List.setIfInBounds_toArray, List.set_cons_zero, List.set_cons_succ]
      refine wpList_yield rfl _ (exec_move _ rfl) ?_
      simp only [Act.put, Act.eval, Array.getD_eq_getD_getElem?, List.getElem?_toArray, List.getElem?_cons_succ, List.getElem?_cons_zero, Option.getD_some, List.setIfInBounds_toArray, List.set_cons_zero, List.set_cons_succ]
      refine wpList_yield_w rfl _ (exec_g0 _ rfl gz rfl) ?_
      simp only [Act.put, List.setIfInBounds_toArray, List.set_cons_zero, List.set_cons_succ]
      refine wpList_yield_w rfl _ (exec_load24 _ rfl _ _ rfl (pair_blk hb7).1) ?_
      simp only [Act.put, List.setIfInBounds_toArray, List.set_cons_zero, List.set_cons_succ]
      refine wpList_yield_w rfl _ (exec_g0 _ rfl w.heap.size rfl) ?_
      simp only [Act.put, List.setIfInBounds_toArray, List.set_cons_zero, List.set_cons_succ]
      refine wpList_yield_w rfl _ (exec_load24 _ rfl _ _ rfl (pair_blk c7).1) ?_
      simp only [Act.put, List.setIfInBounds_toArray, List.set_cons_zero, List.set_cons_succ]
      refine wpList_plain_w rfl fun K hK => ?_; go_simp
      with_reducible refine (K1 g1 w7 hw07 q3).out.mono ?_
      rintro e w8 ⟨rfl, hw8⟩
      have hb8 := hb7.below hw8 hb7.lt
      have q5 := q4.below hw8 q4.lt
      have c8 := c7.below hw8 c7.lt
      have hw08 := bthen hw07 hw8 hw07.size
      refine hK _ _ ?_; clear hK
      (try simp only [Act.put, List.setIfInBounds_toArray, List.set_cons_zero, List.set_cons_succ])
      refine wpList_yield rfl ?vp38_10 ?yp38_10 ?_
      case yp38_10 => go_simp; try with_reducible rfl
      simp only [Act.put, List.setIfInBounds_toArray, List.set_cons_zero, List.set_cons_succ]
      refine wpList_yield rfl _ (exec_move _ rfl) ?_
      simp only [Act.put, Act.eval, Array.getD_eq_getD_getElem?, List.getElem?_toArray, List.getElem?_cons_succ, List.getElem?_cons_zero, Option.getD_some, List.setIfInBounds_toArray, List.set_cons_zero, List.set_cons_succ]
      refine wpList_yield_w rfl _ (exec_g1 _ rfl gz rfl) ?_
      simp only [Act.put, List.setIfInBounds_toArray, List.set_cons_zero, List.set_cons_succ]
      refine wpList_yield_w rfl _ (exec_load24 _ rfl _ _ rfl (pair_blk hb8).2) ?_
      simp only [Act.put, List.setIfInBounds_toArray, List.set_cons_zero, List.set_cons_succ]
      refine wpList_yield_w rfl _ (exec_g1 _ rfl w.heap.size rfl) ?_
      simp only [Act.put, List.setIfInBounds_toArray, List.set_cons_zero, List.set_cons_succ]
      refine wpList_yield_w rfl _ (exec_load24 _ rfl _ _ rfl (pair_blk c8).2) ?_
      simp only [Act.put, List.setIfInBounds_toArray, List.set_cons_zero, List.set_cons_succ]
      refine wpList_plain_w rfl fun K hK => ?_; go_simp
      with_reducible refine (K2 g2 w8 hw08 q5).out.mono ?_
      rintro e w9 ⟨rfl, hw9⟩
      have hw09 := bthen hw08 hw9 hw08.size
      refine hK _ _ ?_; clear hK
      (try simp only [Act.put, List.setIfInBounds_toArray, List.set_cons_zero, List.set_cons_succ])
      refine wpList_yield rfl ?vp39_17 ?yp39_17 ?_
      case yp39_17 => go_simp; try with_reducible rfl
      simp only [Act.put, List.setIfInBounds_toArray, List.set_cons_zero, List.set_cons_succ]
      refine wpList_yield rfl _ (exec_move _ rfl) ?_
      simp only [Act.put, Act.eval, Array.getD_eq_getD_getElem?, List.getElem?_toArray, List.getElem?_cons_succ, List.getElem?_cons_zero, Option.getD_some, List.setIfInBounds_toArray, List.set_cons_zero, List.set_cons_succ]
      refine wpList_plain_w rfl fun K hK => ?_; go_simp
      with_reducible refine (DE _).out.mono ?_
      rintro e w10 ⟨rfl, hw10⟩
      have hw010 := bthen hw09 hw10 hw09.size
      refine hK _ _ ?_; clear hK
      (try simp only [Act.put, List.setIfInBounds_toArray, List.set_cons_zero, List.set_cons_succ])
      refine wpList_plain_w rfl fun K hK => ?_; go_simp
      with_reducible refine (RE _).out.mono ?_
      rintro e w11 ⟨rfl, hw11⟩
      have hw011 := bthen hw010 hw11 hw010.size
      refine hK _ _ ?_; clear hK
      (try simp only [Act.put, List.setIfInBounds_toArray, List.set_cons_zero, List.set_cons_succ])
      refine wpList_yield_w rfl _ (exec_eql_same ab25 _ _ rfl dE rfl rfl HDE.out) ?_
      simp only [Act.put, List.setIfInBounds_toArray, List.set_cons_zero, List.set_cons_succ]
      refine wpList_yield rfl ?vp40_22 ?yp40_22 ?_
      case yp40_22 => go_simp; try with_reducible rfl
      simp only [Act.put, List.setIfInBounds_toArray, List.set_cons_zero, List.set_cons_succ]
      refine wpList_yield rfl _ (exec_assign _ rfl) ?_
      simp only [Act.put, Act.eval, Array.getD_eq_getD_getElem?, List.getElem?_toArray, List.getElem?_cons_succ, List.getElem?_cons_zero, Option.getD_some, List.setIfInBounds_toArray, List.set_cons_zero, List.set_cons_succ]
      refine wpList_nil ?_
      go_wp2_with fail
      go_ret
      exact ⟨rfl, hw011⟩

end Go.Proofs.Ytehbahobkgoapaa
