/- The walk of ShaSums: it says true for every text, every state's words, every block. -/
import Derived.Test.YtehbahobkgoapaaWm
namespace Go.Proofs.Ytehbahobkgoapaa
open Go Go.RowKit
set_option linter.unusedSimpArgs false
set_option linter.unusedVariables false

theorem exec_neq_same {P : Program} {w : World} {a : Act} {o : Oper} {T T' n : Nat} (B : AB P T n) (x y : Operand) (ho : o.op = .binOp .neq T x y T') (xs : List UInt8) (ex : a.eval x = .agg (bvs xs).toArray) (ey : a.eval y = .agg (bvs xs).toArray) (hx : xs.length = n) :
    (execOp a.eval o).run P w = .ok (.value (.bool false)) w := by
  have h := exec_neq_arr (w := w) B x y ho xs xs ex ey hx hx
  rw [h]
  simp

set_option maxRecDepth 100000 in
set_option maxHeartbeats 4000000 in
theorem sha_sums (A : Option Addr) (n c : Nat) (l : List UInt8) (h : List Nat) (b : List UInt8) (w : World) (hr : Rd w A (bvs l)) (hl : l.length = n) (hn : n ≤ 140737488351232) (hh : h.length = 8) (hlt : ∀ x ∈ h, x < 4294967296) (hb : b.length = 64) :
    Calls Try.prog 12 #[.slice A n c, .agg (wvs h).toArray, .agg (bvs b).toArray] w fun e w' => e = .returned (.bool true) ∧ Below w.heap.size w w' := by
  have HL := Lib.hid hl
  have HH := Lib.hid hh
  have HB := Lib.hid hb
  have HRL : Hid ((shaL l).length = 32) := Lib.hid (shaL_length l)
  have HSL : Hid ((step h b).length = 8) := Lib.hid (step_length h b)
  have b1 : Blk (w.alloc (.cells (wvs h).toArray 96)) w.heap.size 96 (wvs h) := Blk.new _ _ _
  have b2 : Blk ((w.alloc (.cells (wvs h).toArray 96)).alloc (.cells (bvs b).toArray 97)) (w.heap.size + 1) 97 (bvs b) := by
    have := Blk.new (w.alloc (.cells (wvs h).toArray 96)) 97 (bvs b)
    rwa [show (w.alloc (.cells (wvs h).toArray 96)).heap.size = w.heap.size + 1 by simp] at this
  have hall := And.intro (b1.alloc (.cells (bvs b).toArray 97)) (And.intro b2 (((Below.refl w.heap.size w).alloc (Nat.le_refl _) (.cells (wvs h).toArray 96)).alloc (by simp) (.cells (bvs b).toArray 97)))
  have S1 := fun (ad : Addr) (u : World) (hru : Rd u (some ad) (bvs l)) => Lib.hid (sum_any (some ad) n (n + 5) l u hru hl (by omega) (by unfold maxLen; omega) (by omega))
  have S2 := fun (u : World) (hru : Rd u A (bvs l)) => Lib.hid (rsum_any A n c l u hru hl hn)
  have S3 := fun (u : World) => Lib.hid (step_any h b u hh hlt hb)
  have S4 := fun (ad : Addr) (u : World) (hru : Rd u (some ad) (bvs b)) => Lib.hid (rstep_any h (some ad) 64 64 b u hh hlt hru rfl hb)
  clear b1 b2 hl hh hb hlt
  generalize shaL l = res at *
  generalize step h b = sres at *
  unfold arr8 at *
  unfold arrW at *
  go_enter Try.func12, Try.ntmps12
  go_upto_region 1 with fail
  generalize hW : World.alloc (World.alloc w _) _ = w0
  have h3 : Blk w0 w.heap.size 96 (wvs h) ∧ Blk w0 (w.heap.size + 1) 97 (bvs b) ∧ Below w.heap.size w w0 := by rw [← hW]; exact hall
  clear hall hW
  obtain ⟨c1, c2, c0⟩ := h3
  have hr0 := hr.below c0
  go_upto_region 4 with (first
    | (go_at_call 25; with_reducible refine (lent A n c l w0 hr0 HL.out hn).mono ?_; rintro e w1 ⟨rfl, hb1, hw1, hz1⟩)
    | (go_at_call 79; with_reducible refine (S1 _ _ (lent_rd0 hb1)).out.mono ?_; rintro e w2 ⟨rfl, hw2⟩)
    | (go_at_call 80; with_reducible refine (S2 w2 ((hr0.below hw1).below hw2)).out.mono ?_; rintro e w3 ⟨rfl, hw3⟩)
    | ((with_reducible refine at_dst 14 ?_); refine wpList_yield rfl _ (exec_neq_same ab25 _ _ rfl res rfl rfl HRL.out) ?_)
    | (go_at_call 40; with_reducible refine (kept_bytes ⟨w0.heap.size, 0, none⟩ A n c l w3 (((hr0.below hw1).below hw2).below hw3) HL.out hn (Rd.of_blk0 (es := []) (by simpa using (hb1.below hw2 hb1.lt).below hw3 (hb1.below hw2 hb1.lt).lt))).mono ?_; rintro e w4 ⟨rfl, hw4⟩))
  have hB : Below w0.heap.size w0 w4 := by
    have e1 := hw1.trans (hw2.mono hw1.size)
    have e2 := e1.trans (hw3.mono e1.size)
    exact e2.trans (hw4.mono e2.size)
  have d1 := c1.below hB c1.lt
  have d2 := c2.below hB c2.lt
  have d0 := c0.trans (hB.mono c0.size)
  clear hB hw1 hw2 hw3 hw4 hb1 hz1 c0 c1 c2 S1 S2 hr hr0
  refine rg_begin (Below w4.heap.size w4) [] [2, 5] [0, 1, 3, 4, 2, 5, 6, 7] 0 mixed (by kernel_rfl) (fun _ _ _ _ e hh => ⟨e.symm.trans hh.1, hh.2⟩) ?_
  simp only [pick, List.map_cons, List.map_nil, List.getD_cons_zero, List.getD_cons_succ]
  have hS : (Below w4.heap.size w4) _ := (Below.refl _ _).drew
  refine rg_take rfl rfl hS (fun W hW => exec_load_agg at96 (.tmp 4) rfl w.heap.size 96 (wvs h) rfl (d1.below hW d1.lt) (by rw [wvs_length]; exact HH.out)) ?_
  simp only [Act.put, List.setIfInBounds_toArray, List.set_cons_zero, List.set_cons_succ]
  refine rg_take rfl rfl hS (fun W hW => exec_load_agg at97 (.tmp 5) rfl (w.heap.size + 1) 97 (bvs b) rfl (d2.below hW d2.lt) (by rw [bvs_length]; exact HB.out)) ?_
  simp only [Act.put, List.setIfInBounds_toArray, List.set_cons_zero, List.set_cons_succ]
  refine rg_take rfl rfl hS (fun W hW => exec_load_agg at96 (.tmp 4) rfl w.heap.size 96 (wvs h) rfl (d1.below hW d1.lt) (by rw [wvs_length]; exact HH.out)) ?_
  simp only [Act.put, List.setIfInBounds_toArray, List.set_cons_zero, List.set_cons_succ]
  refine rg_take rfl rfl hS (fun W hW => exec_arr_all ia97 _ rfl (w.heap.size + 1) 0 rfl) ?_
  simp only [Act.put, List.setIfInBounds_toArray, List.set_cons_zero, List.set_cons_succ]
  refine rg_one rfl rfl ?_; intro K hK; go_simp
  with_reducible refine (S3 _).out.mono ?_
  rintro e w5 ⟨rfl, hw5⟩
  have hS1 : Below w4.heap.size w4 w5 := Below.trans hS (hw5.mono (Below.size hS))
  refine hK _ _ (fun _ => hS1) ?_; clear hK
  refine rg_one rfl rfl ?_; intro K hK; go_simp
  have hrd : Rd w5 (some ⟨w.heap.size + 1, 0, none⟩) (bvs b) := Rd.of_blk0 (es := []) (by simpa using d2.below hS1 d2.lt)
  with_reducible refine (S4 _ _ hrd).out.mono ?_
  rintro e w6 ⟨rfl, hw6⟩
  have hS2 : Below w4.heap.size w4 w6 := Below.trans hS1 (hw6.mono (Below.size hS1))
  refine hK _ _ (fun _ => hS2) ?_; clear hK
  refine rg_take rfl rfl hS2 (fun W hW => exec_eql_words _ _ rfl sres rfl rfl HSL.out) ?_
  simp only [Act.put, List.setIfInBounds_toArray, List.set_cons_zero, List.set_cons_succ]
  refine rg_take (v := ?v1_7) rfl rfl hS2 ?y1_7 ?_
  case y1_7 => intro W hW; (try subst hW); go_simp; try with_reducible rfl
  simp only [Act.put, List.setIfInBounds_toArray, List.set_cons_zero, List.set_cons_succ]
  refine rg_done (by kernel_rfl) ?_
  go_wp2_with fail
  go_ret
  exact ⟨rfl, d0.trans (hS2.mono d0.size)⟩
end Go.Proofs.Ytehbahobkgoapaa
