/- The program's block step. -/
import Derived.Test.YtehbahobkgoapaaWd
import Derived.Test.YtehbahobkgoapaaWp
namespace Go.Proofs.Ytehbahobkgoapaa
open Go Go.RowKit
set_option linter.unusedSimpArgs false
set_option linter.unusedVariables false

/-- What a step's rounds come to. -/
theorem step_parts (h : List Nat) (b : List UInt8) (hh : h.length = 8) : ∃ (a0 a1 a2 a3 a4 a5 a6 a7 : Nat) (R : List Nat), h = [a0, a1, a2, a3, a4, a5, a6, a7] ∧ R.length = 8 ∧ step h b = List.zipWith ad h R ∧ rnds shaK (sched b) a0 a1 a2 a3 a4 a5 a6 a7 = R := by
  obtain ⟨a0, a1, a2, a3, a4, a5, a6, a7, rfl⟩ := eight hh
  exact ⟨a0, a1, a2, a3, a4, a5, a6, a7, _, rfl, rnds_length _ _ _ _ _ _ _ _ _ _, step_eq _ _ _ _ _ _ _ _ b, rfl⟩
theorem two_rows (u : World) : Blk ((u.alloc (.cells (wvs (zw 64)).toArray 176)).alloc (.cells (wvs (zw 64)).toArray 176)) u.heap.size 176 (wvs (zw 64)) ∧ Blk ((u.alloc (.cells (wvs (zw 64)).toArray 176)).alloc (.cells (wvs (zw 64)).toArray 176)) (u.heap.size + 1) 176 (wvs (zw 64)) ∧
    Below u.heap.size u ((u.alloc (.cells (wvs (zw 64)).toArray 176)).alloc (.cells (wvs (zw 64)).toArray 176)) := by
  refine ⟨(Blk.new _ _ _).alloc _, ?_, ((Below.refl _ _).alloc (Nat.le_refl _) _).alloc (by simp) _⟩
  have := Blk.new (u.alloc (.cells (wvs (zw 64)).toArray 176)) 176 (wvs (zw 64))
  rwa [show (u.alloc (.cells (wvs (zw 64)).toArray 176)).heap.size = u.heap.size + 1 by simp] at this

set_option maxRecDepth 100000 in
set_option maxHeartbeats 4000000 in
theorem step_any (h : List Nat) (b : List UInt8) (w : World) (hh : h.length = 8) (hlt : ∀ x ∈ h, x < 4294967296) (hl : b.length = 64) :
    Calls Try.prog 81 #[arrW h, arr8 b] w fun e w' => e = .returned (arrW (step h b)) ∧ Below w.heap.size w w' := by
  have HL := Lib.hid hl
  have HH := Lib.hid hh
  have b1 : Blk (w.alloc (.cells (wvs h).toArray 96)) w.heap.size 96 (wvs h) := Blk.new _ _ _
  have b2 : Blk ((w.alloc (.cells (wvs h).toArray 96)).alloc (.cells (bvs b).toArray 97)) (w.heap.size + 1) 97 (bvs b) := by
    have := Blk.new (w.alloc (.cells (wvs h).toArray 96)) 97 (bvs b)
    rwa [show (w.alloc (.cells (wvs h).toArray 96)).heap.size = w.heap.size + 1 by simp] at this
  have b3 : Blk (((w.alloc (.cells (wvs h).toArray 96)).alloc (.cells (bvs b).toArray 97)).alloc (.cells (wvs (zw 8)).toArray 96)) (w.heap.size + 2) 96 (wvs (zw 8)) := by
    have := Blk.new ((w.alloc (.cells (wvs h).toArray 96)).alloc (.cells (bvs b).toArray 97)) 96 (wvs (zw 8))
    rwa [show ((w.alloc (.cells (wvs h).toArray 96)).alloc (.cells (bvs b).toArray 97)).heap.size = w.heap.size + 2 by simp] at this
  have hall := And.intro ((b1.alloc (.cells (bvs b).toArray 97)).alloc (.cells (wvs (zw 8)).toArray 96)) (And.intro (b2.alloc (.cells (wvs (zw 8)).toArray 96)) (And.intro b3
    ((((Below.refl w.heap.size w).alloc (Nat.le_refl _) (.cells (wvs h).toArray 96)).alloc (by simp) (.cells (bvs b).toArray 97)).alloc (by simp; omega) (.cells (wvs (zw 8)).toArray 96))))
  have C1 := fun u => Lib.hid (schedule_any b u hl)
  have C2 := fun u => Lib.hid (constants_any u)
  have HP := Lib.hid (step_parts h b hh)
  have HWL := Lib.hid (sched_length b)
  have HKL := Lib.hid shaK_length
  have HAT := Lib.hid (rnds_at (sched b) (sched_length b))
  have HEN := Lib.hid (rnds_end (sched b) (sched_length b))
  have HG := Lib.hid hlt
  clear b1 b2 b3 hl hh hlt
  generalize step h b = res at *
  generalize sched b = ws at *
  obtain ⟨ks, hks⟩ : ∃ ks, ks = shaK := ⟨_, rfl⟩
  rw [← hks] at HP HKL HAT HEN
  rw [← hks] at C2
  clear hks
  unfold arr8 arrW at *
  go_enter Try.func81, Try.ntmps81
  go_upto_region 1 with fail
  generalize hW : World.alloc (World.alloc (World.alloc w _) _) _ = w0
  have h3 : Blk w0 w.heap.size 96 (wvs h) ∧ Blk w0 (w.heap.size + 1) 97 (bvs b) ∧ Blk w0 (w.heap.size + 2) 96 (wvs (zw 8)) ∧ Below w.heap.size w w0 := by rw [← hW]; exact hall
  clear hall hW
  obtain ⟨c1, c2, c3, c4⟩ := h3
  have A := fun u => Lib.hid (two_rows u)
  go_upto_region 2 with (first
    | ((with_reducible refine at_dst 14 ?_); refine wpList_yield rfl _ (exec_load_agg at97 (.tmp 3) rfl _ 97 (bvs b) rfl c2 (by rw [bvs_length]; exact HL.out)) ?_)
    | (go_at_call 135; with_reducible refine (C1 _).out.mono ?_; rintro e w1 ⟨rfl, hw1⟩)
    | (go_at_call 136; with_reducible refine (C2 _).out.mono ?_; rintro e w2 ⟨rfl, hw2⟩)
    | ((with_reducible refine at_op (Op.store 176 (.tmp 5) (.tmp 15)) ?_); refine wpList_store_at at176.i rfl (.tmp 5) (.tmp 15) rfl w2.heap.size 0 176 (wvs (zw 64)) (wvs ws) rfl rfl (A w2).out.1 (by rw [wvs_length]; exact HWL.out) (by rw [wvs_length, zw_length]; omega) (wvs_one _) ?_; intro w3 hb3 hg3 hs3)
    | ((with_reducible refine at_op (Op.store 176 (.tmp 6) (.tmp 16)) ?_); refine wpList_store_at at176.i rfl (.tmp 6) (.tmp 16) rfl (w2.heap.size + 1) 0 176 (wvs (zw 64)) (wvs ks) rfl rfl ((A w2).out.2.1.grown hg3 (by simp)) (by rw [wvs_length]; exact HKL.out) (by rw [wvs_length, zw_length]; omega) (wvs_one _) ?_; intro w4 hb4 hg4 hs4))
  have hB : Below w0.heap.size w0 w2 := hw1.trans (hw2.mono hw1.size)
  have hB2 : Below w0.heap.size w0 ((w2.alloc (.cells (wvs (zw 64)).toArray 176)).alloc (.cells (wvs (zw 64)).toArray 176)) := hB.trans ((A w2).out.2.2.mono hB.size)
  have hB3 : Below w0.heap.size w0 w3 := hB2.grown hg3 hB2.size (by intro k hk; cases hk; exact hB.size)
  have hB4 : Below w0.heap.size w0 w4 := hB3.grown hg4 hB3.size (by intro k hk; cases hk; have := hB.size; omega)
  have hs0 : w0.heap.size ≤ w2.heap.size := hB.size
  have hs24 : w2.heap.size + 2 ≤ w4.heap.size := by rw [hs4, hs3]; simp
  have l1 := c1.lt
  have l3 := c3.lt
  have d1 := c1.below hB4 c1.lt
  have d3 := c3.below hB4 c3.lt
  have d5 : Blk w4 w2.heap.size 176 (wvs ws) := by
    rw [splice_all _ _ (by rw [wvs_length, wvs_length, zw_length, HWL.out])] at hb3
    exact hb3.grown hg4 (by simp)
  have d6 : Blk w4 (w2.heap.size + 1) 176 (wvs ks) := by rwa [splice_all _ _ (by rw [wvs_length, wvs_length, zw_length, HKL.out])] at hb4
  have d0 : Below w.heap.size w w4 := c4.trans (hB4.mono c4.size)
  clear hB hB2 hB3 hB4 hb3 hb4 hg3 hg4 hs3 hs4 hw1 hw2 c1 c2 c3 c4 C1 C2 A
  obtain ⟨a0, a1, a2, a3, a4, a5, a6, a7, R, hp1, hp2, hp3, hp4⟩ := HP.out
  clear HP
  have HR2 := Lib.hid hp2
  have HR3 := Lib.hid hp3
  have HR4 : Hid (rnds (ks.drop 0) (ws.drop 0) a0 a1 a2 a3 a4 a5 a6 a7 = R) := Lib.hid (by rw [List.drop_zero, List.drop_zero]; exact hp4)
  have HI := Lib.hid hp1
  clear hp1 hp2 hp3 hp4
  generalize w2.heap.size = n2 at *
  have b7 : Blk (w4.alloc (.cells (wvs (zw 8)).toArray 96)) w4.heap.size 96 (wvs (zw 8)) := Blk.new _ _ _
  go_upto_region 3 with (first
    | ((with_reducible refine at_dst 17 ?_); refine wpList_yield rfl _ (exec_load_agg at96 (.tmp 2) rfl _ 96 (wvs h) rfl d1 (by rw [wvs_length]; exact HH.out)) ?_)
    | ((with_reducible refine at_op (Op.store 96 (.tmp 7) (.tmp 17)) ?_); refine wpList_store_at at96.i rfl (.tmp 7) (.tmp 17) rfl w4.heap.size 0 96 (wvs (zw 8)) (wvs h) rfl rfl b7 (by rw [wvs_length]; exact HH.out) (by rw [wvs_length, zw_length]; omega) (wvs_one _) ?_; intro w5 hb5 hg5 hs5))
  rw [splice_all _ _ (by rw [wvs_length, wvs_length, zw_length, HH.out])] at hb5
  have e1 := (d1.alloc (.cells (wvs (zw 8)).toArray 96)).grown hg5 (by simp; omega)
  have e3 := (d3.alloc (.cells (wvs (zw 8)).toArray 96)).grown hg5 (by simp; omega)
  have e5 := (d5.alloc (.cells (wvs (zw 8)).toArray 96)).grown hg5 (by simp; omega)
  have e6 := (d6.alloc (.cells (wvs (zw 8)).toArray 96)).grown hg5 (by simp; omega)
  have e0 : Below w.heap.size w w5 := (d0.alloc d0.size (.cells (wvs (zw 8)).toArray 96)).grown hg5 (by have := d0.size; simp; omega) (by intro k hk; cases hk; exact d0.size)
  have hz : w.heap.size + 2 < n2 := by omega
  have hz2 : n2 + 2 ≤ w4.heap.size := hs24
  generalize w4.heap.size = n4 at *
  clear d1 d3 d5 d6 d0 b7 hg5 hs5 l1 l3 hs0 hs24 w0 w1 w3 w4
  rw [HI.out] at hb5
  go_wp2_with fail
  go_loopw [18] (fun i wr => ∃ (t a b c d e f g k : Nat), t ≤ 64 ∧ i = .int .i64 (t : Int) ∧ (a < 4294967296 ∧ b < 4294967296 ∧ c < 4294967296 ∧ d < 4294967296 ∧ e < 4294967296 ∧ f < 4294967296 ∧ g < 4294967296 ∧ k < 4294967296) ∧
    Hid (rnds (ks.drop t) (ws.drop t) a b c d e f g k = R) ∧ Blk wr w.heap.size 96 (wvs h) ∧ Blk wr (w.heap.size + 2) 96 (wvs (zw 8)) ∧ Blk wr n2 176 (wvs ws) ∧ Blk wr (n2 + 1) 176 (wvs ks) ∧ Blk wr n4 96 (wvs [a, b, c, d, e, f, g, k]) ∧ Below w.heap.size w wr) (fun i _ => 64 - (intOf i).toNat)
  case atStart =>
    have hg8 := HG.out
    rw [HI.out] at hg8
    simp only [List.mem_cons, List.not_mem_nil, or_false, forall_eq_or_imp, forall_eq] at hg8
    exact ⟨0, a0, a1, a2, a3, a4, a5, a6, a7, by omega, by go_num, hg8, HR4, e1, e3, e5, e6, hb5, e0⟩
  case round =>
    clear e0 e1 e3 e5 e6 hb5 HR4 w5
    obtain ⟨t, a, x1, x2, x3, e, x5, x6, x7, ht, rfl, ⟨l0, l1, l2, l3, l4, l5, l6, l7⟩, HR, g1, g3, g5, g6, g7, g0⟩ := hrel
    by_cases htl : t < 64
    · have ht0 : (t : Int) < 64 := by omega
      obtain ⟨kt, hkt⟩ : ∃ kt, kt = ks.getD t 0 := ⟨_, rfl⟩
      obtain ⟨wt, hwt⟩ : ∃ wt, wt = ws.getD t 0 := ⟨_, rfl⟩
      have ek : Hid (ks[t]? = some kt) := Lib.hid (by rw [hkt]; exact getD_some _ _ (by rw [HKL.out]; exact htl))
      have ew : Hid (ws[t]? = some wt) := Lib.hid (by rw [hwt]; exact getD_some _ _ (by rw [HWL.out]; exact htl))
      obtain ⟨on, hon⟩ : ∃ on, on = one e x5 x6 x7 kt wt := ⟨_, rfl⟩
      obtain ⟨tw, htw⟩ : ∃ tw, tw = two a x1 x2 := ⟨_, rfl⟩
      have HR' : Hid (rnds (ks.drop (t + 1)) (ws.drop (t + 1)) (ad on tw) a x1 x2 (ad x3 on) e x5 x6 = R) := Lib.hid (by
        rw [hon, htw, hkt, hwt, ← HAT.out t htl]; exact HR.out)
      have HON := Lib.hid hon
      have HTW := Lib.hid htw
      clear hkt hwt hon htw HR HAT HEN
      have E6 := fun u => Lib.hid (right_any e 26 6 6 u l4 (by decide +kernel) (by decide) rfl)
      have E11 := fun u => Lib.hid (right_any e 21 11 11 u l4 (by decide +kernel) (by decide) rfl)
      have E25 := fun u => Lib.hid (right_any e 7 25 25 u l4 (by decide +kernel) (by decide) rfl)
      have A2 := fun u => Lib.hid (right_any a 30 2 2 u l0 (by decide +kernel) (by decide) rfl)
      have A13 := fun u => Lib.hid (right_any a 19 13 13 u l0 (by decide +kernel) (by decide) rfl)
      have A22 := fun u => Lib.hid (right_any a 10 22 22 u l0 (by decide +kernel) (by decide) rfl)
      go_upto_region 6 with fail
      refine rg_begin (fun W => W = wr.drew) [] [] [0, 1, 2, 3, 4, 5] 0 mixed (by kernel_rfl) (fun _ _ _ _ e hh => ⟨e.symm.trans hh.1, hh.2⟩) ?_
      simp only [pick, List.map_cons, List.map_nil, List.getD_cons_zero, List.getD_cons_succ]
      have hS : (fun W => W = wr.drew) _ := rfl
      refine rg_take rfl rfl hS (fun W hW => exec_ia0 ia96 _ _ rfl _ 0 _ rfl rfl (by omega)) ?_
      simp only [Act.put, List.setIfInBounds_toArray, List.set_cons_zero, List.set_cons_succ]
      refine rg_take rfl rfl hS (fun W hW => exec_wload w94 _ rfl _ _ _ _ _ rfl ((by subst hW; exact g7.drew)) (rfl)) ?_
      simp only [Act.put, List.setIfInBounds_toArray, List.set_cons_zero, List.set_cons_succ]
      refine rg_take rfl rfl hS (fun W hW => exec_ia0 ia96 _ _ rfl _ 4 _ rfl rfl (by omega)) ?_
      simp only [Act.put, List.setIfInBounds_toArray, List.set_cons_zero, List.set_cons_succ]
      refine rg_take rfl rfl hS (fun W hW => exec_wload w94 _ rfl _ _ _ _ _ rfl ((by subst hW; exact g7.drew)) (rfl)) ?_
      simp only [Act.put, List.setIfInBounds_toArray, List.set_cons_zero, List.set_cons_succ]
      refine rg_take (v := ?v1_4) rfl rfl hS ?y1_4 ?_
      case y1_4 => intro W hW; (try subst hW); go_simp; try with_reducible rfl
      simp only [Act.put, List.setIfInBounds_toArray, List.set_cons_zero, List.set_cons_succ]
      refine rg_take (v := ?v1_5) rfl rfl hS ?y1_5 ?_
      case y1_5 => intro W hW; (try subst hW); go_simp; try with_reducible rfl
      simp only [Act.put, List.setIfInBounds_toArray, List.set_cons_zero, List.set_cons_succ]
      refine rg_done (by kernel_rfl) ?_
      go_upto_region 7 with fail
      refine rg_begin (fun W => W = wr.drew.drew) [] [3, 5, 8] [0, 1, 2, 4, 7, 11, 12, 13, 14, 15, 16, 17, 18, 19, 20, 22, 23, 24, 26, 27, 28, 3, 5, 6, 8, 9, 10, 21, 25, 29, 30] 0 mixed (by kernel_rfl) (fun _ _ _ _ e hh => ⟨e.symm.trans hh.1, hh.2⟩) ?_
      simp only [pick, List.map_cons, List.map_nil, List.getD_cons_zero, List.getD_cons_succ]
      have hS2 : (fun W => W = wr.drew.drew) _ := rfl
      refine rg_take rfl rfl hS2 (fun W hW => exec_ia0 ia96 _ _ rfl _ 7 _ rfl rfl (by omega)) ?_
      simp only [Act.put, List.setIfInBounds_toArray, List.set_cons_zero, List.set_cons_succ]
      refine rg_take rfl rfl hS2 (fun W hW => exec_wload w94 _ rfl _ _ _ _ _ rfl ((by subst hW; exact g7.drew.drew)) (rfl)) ?_
      simp only [Act.put, List.setIfInBounds_toArray, List.set_cons_zero, List.set_cons_succ]
      refine rg_take (v := ?v2_2) rfl rfl hS2 ?y2_2 ?_
      case y2_2 => intro W hW; (try subst hW); go_simp; try with_reducible rfl
      simp only [Act.put, List.setIfInBounds_toArray, List.set_cons_zero, List.set_cons_succ]
      refine rg_take (v := ?v2_4) rfl rfl hS2 ?y2_4 ?_
      case y2_4 => intro W hW; (try subst hW); go_simp; try with_reducible rfl
      simp only [Act.put, List.setIfInBounds_toArray, List.set_cons_zero, List.set_cons_succ]
      refine rg_take (v := ?v2_7) rfl rfl hS2 ?y2_7 ?_
      case y2_7 => intro W hW; (try subst hW); go_simp; try with_reducible rfl
      simp only [Act.put, List.setIfInBounds_toArray, List.set_cons_zero, List.set_cons_succ]
      refine rg_take (v := ?v2_11) rfl rfl hS2 ?y2_11 ?_
      case y2_11 => intro W hW; (try subst hW); go_simp; try with_reducible rfl
      simp only [Act.put, List.setIfInBounds_toArray, List.set_cons_zero, List.set_cons_succ]
      refine rg_take rfl rfl hS2 (fun W hW => exec_ia0 ia96 _ _ rfl _ 5 _ rfl rfl (by omega)) ?_
      simp only [Act.put, List.setIfInBounds_toArray, List.set_cons_zero, List.set_cons_succ]
      refine rg_take rfl rfl hS2 (fun W hW => exec_wload w94 _ rfl _ _ _ _ _ rfl ((by subst hW; exact g7.drew.drew)) (rfl)) ?_
      simp only [Act.put, List.setIfInBounds_toArray, List.set_cons_zero, List.set_cons_succ]
      refine rg_take rfl rfl hS2 (fun W hW => exec_wand _ _ rfl _ _ rfl rfl (by with_reducible repeat' first | assumption | exact ad_lt _ _ | exact u8_w32 _ | exact not_lt32 _ | exact mod_lt32 _ | refine xor_lt32 ?_ ?_ | refine or_lt32 ?_ ?_ | refine and_lt32 ?_ | refine rotr_lt _ _ ?_ | refine div_lt32 _ ?_) (by with_reducible repeat' first | assumption | exact ad_lt _ _ | exact u8_w32 _ | exact not_lt32 _ | exact mod_lt32 _ | refine xor_lt32 ?_ ?_ | refine or_lt32 ?_ ?_ | refine and_lt32 ?_ | refine rotr_lt _ _ ?_ | refine div_lt32 _ ?_)) ?_
      simp only [Act.put, List.setIfInBounds_toArray, List.set_cons_zero, List.set_cons_succ]
      refine rg_take (v := ?v2_15) rfl rfl hS2 ?y2_15 ?_
      case y2_15 => intro W hW; (try subst hW); go_simp; try with_reducible rfl
      simp only [Act.put, List.setIfInBounds_toArray, List.set_cons_zero, List.set_cons_succ]
      refine rg_take rfl rfl hS2 (fun W hW => exec_wnot _ rfl _ rfl (by with_reducible repeat' first | assumption | exact ad_lt _ _ | exact u8_w32 _ | exact not_lt32 _ | exact mod_lt32 _ | refine xor_lt32 ?_ ?_ | refine or_lt32 ?_ ?_ | refine and_lt32 ?_ | refine rotr_lt _ _ ?_ | refine div_lt32 _ ?_)) ?_
      simp only [Act.put, List.setIfInBounds_toArray, List.set_cons_zero, List.set_cons_succ]
      refine rg_take rfl rfl hS2 (fun W hW => exec_ia0 ia96 _ _ rfl _ 6 _ rfl rfl (by omega)) ?_
      simp only [Act.put, List.setIfInBounds_toArray, List.set_cons_zero, List.set_cons_succ]
      refine rg_take rfl rfl hS2 (fun W hW => exec_wload w94 _ rfl _ _ _ _ _ rfl ((by subst hW; exact g7.drew.drew)) (rfl)) ?_
      simp only [Act.put, List.setIfInBounds_toArray, List.set_cons_zero, List.set_cons_succ]
      refine rg_take rfl rfl hS2 (fun W hW => exec_wand _ _ rfl _ _ rfl rfl (by with_reducible repeat' first | assumption | exact ad_lt _ _ | exact u8_w32 _ | exact not_lt32 _ | exact mod_lt32 _ | refine xor_lt32 ?_ ?_ | refine or_lt32 ?_ ?_ | refine and_lt32 ?_ | refine rotr_lt _ _ ?_ | refine div_lt32 _ ?_) (by with_reducible repeat' first | assumption | exact ad_lt _ _ | exact u8_w32 _ | exact not_lt32 _ | exact mod_lt32 _ | refine xor_lt32 ?_ ?_ | refine or_lt32 ?_ ?_ | refine and_lt32 ?_ | refine rotr_lt _ _ ?_ | refine div_lt32 _ ?_)) ?_
      simp only [Act.put, List.setIfInBounds_toArray, List.set_cons_zero, List.set_cons_succ]
      refine rg_take rfl rfl hS2 (fun W hW => exec_wxor _ _ rfl _ _ rfl rfl (by with_reducible repeat' first | assumption | exact ad_lt _ _ | exact u8_w32 _ | exact not_lt32 _ | exact mod_lt32 _ | refine xor_lt32 ?_ ?_ | refine or_lt32 ?_ ?_ | refine and_lt32 ?_ | refine rotr_lt _ _ ?_ | refine div_lt32 _ ?_) (by with_reducible repeat' first | assumption | exact ad_lt _ _ | exact u8_w32 _ | exact not_lt32 _ | exact mod_lt32 _ | refine xor_lt32 ?_ ?_ | refine or_lt32 ?_ ?_ | refine and_lt32 ?_ | refine rotr_lt _ _ ?_ | refine div_lt32 _ ?_)) ?_
      simp only [Act.put, List.setIfInBounds_toArray, List.set_cons_zero, List.set_cons_succ]
      refine rg_take (v := ?v2_22) rfl rfl hS2 ?y2_22 ?_
      case y2_22 => intro W hW; (try subst hW); go_simp; try with_reducible rfl
      simp only [Act.put, List.setIfInBounds_toArray, List.set_cons_zero, List.set_cons_succ]
      refine rg_take rfl rfl hS2 (fun W hW => exec_ia0 ia176 _ _ rfl _ _ _ rfl rfl (by omega)) ?_
      simp only [Act.put, List.setIfInBounds_toArray, List.set_cons_zero, List.set_cons_succ]
      refine rg_take rfl rfl hS2 (fun W hW => exec_wload w94 _ rfl _ _ _ _ _ rfl ((by subst hW; exact g6.drew.drew)) (ek.out)) ?_
      simp only [Act.put, List.setIfInBounds_toArray, List.set_cons_zero, List.set_cons_succ]
      refine rg_take (v := ?v2_26) rfl rfl hS2 ?y2_26 ?_
      case y2_26 => intro W hW; (try subst hW); go_simp; try with_reducible rfl
      simp only [Act.put, List.setIfInBounds_toArray, List.set_cons_zero, List.set_cons_succ]
      refine rg_take rfl rfl hS2 (fun W hW => exec_ia0 ia176 _ _ rfl _ _ _ rfl rfl (by omega)) ?_
      simp only [Act.put, List.setIfInBounds_toArray, List.set_cons_zero, List.set_cons_succ]
      refine rg_take rfl rfl hS2 (fun W hW => exec_wload w94 _ rfl _ _ _ _ _ rfl ((by subst hW; exact g5.drew.drew)) (ew.out)) ?_
      simp only [Act.put, List.setIfInBounds_toArray, List.set_cons_zero, List.set_cons_succ]
      refine rg_one rfl rfl ?_; intro K hK; go_simp
      with_reducible refine (E6 _).out.mono ?_
      rintro y _ ⟨rfl, rfl⟩
      refine hK _ _ (fun _ => hS2) ?_; clear hK
      refine rg_one rfl rfl ?_; intro K hK; go_simp
      with_reducible refine (E11 _).out.mono ?_
      rintro y _ ⟨rfl, rfl⟩
      refine hK _ _ (fun _ => hS2) ?_; clear hK
      refine rg_take rfl rfl hS2 (fun W hW => exec_wxor _ _ rfl _ _ rfl rfl (by with_reducible repeat' first | assumption | exact ad_lt _ _ | exact u8_w32 _ | exact not_lt32 _ | exact mod_lt32 _ | refine xor_lt32 ?_ ?_ | refine or_lt32 ?_ ?_ | refine and_lt32 ?_ | refine rotr_lt _ _ ?_ | refine div_lt32 _ ?_) (by with_reducible repeat' first | assumption | exact ad_lt _ _ | exact u8_w32 _ | exact not_lt32 _ | exact mod_lt32 _ | refine xor_lt32 ?_ ?_ | refine or_lt32 ?_ ?_ | refine and_lt32 ?_ | refine rotr_lt _ _ ?_ | refine div_lt32 _ ?_)) ?_
      simp only [Act.put, List.setIfInBounds_toArray, List.set_cons_zero, List.set_cons_succ]
      refine rg_one rfl rfl ?_; intro K hK; go_simp
      with_reducible refine (E25 _).out.mono ?_
      rintro y _ ⟨rfl, rfl⟩
      refine hK _ _ (fun _ => hS2) ?_; clear hK
      refine rg_take rfl rfl hS2 (fun W hW => exec_wxor _ _ rfl _ _ rfl rfl (by with_reducible repeat' first | assumption | exact ad_lt _ _ | exact u8_w32 _ | exact not_lt32 _ | exact mod_lt32 _ | refine xor_lt32 ?_ ?_ | refine or_lt32 ?_ ?_ | refine and_lt32 ?_ | refine rotr_lt _ _ ?_ | refine div_lt32 _ ?_) (by with_reducible repeat' first | assumption | exact ad_lt _ _ | exact u8_w32 _ | exact not_lt32 _ | exact mod_lt32 _ | refine xor_lt32 ?_ ?_ | refine or_lt32 ?_ ?_ | refine and_lt32 ?_ | refine rotr_lt _ _ ?_ | refine div_lt32 _ ?_)) ?_
      simp only [Act.put, List.setIfInBounds_toArray, List.set_cons_zero, List.set_cons_succ]
      refine rg_take rfl rfl hS2 (fun W hW => exec_wadd _ _ rfl _ _ rfl rfl) ?_
      simp only [Act.put, List.setIfInBounds_toArray, List.set_cons_zero, List.set_cons_succ]
      refine rg_take rfl rfl hS2 (fun W hW => exec_wadd _ _ rfl _ _ rfl rfl) ?_
      simp only [Act.put, List.setIfInBounds_toArray, List.set_cons_zero, List.set_cons_succ]
      refine rg_take rfl rfl hS2 (fun W hW => exec_wadd _ _ rfl _ _ rfl rfl) ?_
      simp only [Act.put, List.setIfInBounds_toArray, List.set_cons_zero, List.set_cons_succ]
      refine rg_take rfl rfl hS2 (fun W hW => exec_wadd _ _ rfl _ _ rfl rfl) ?_
      simp only [Act.put, List.setIfInBounds_toArray, List.set_cons_zero, List.set_cons_succ]
      refine rg_take (v := ?v2_30) rfl rfl hS2 ?y2_30 ?_
      case y2_30 => intro W hW; (try subst hW); go_simp; try with_reducible rfl
      simp only [Act.put, List.setIfInBounds_toArray, List.set_cons_zero, List.set_cons_succ]
      refine rg_done (by kernel_rfl) ?_
      rw [show ad (ad (ad (ad x7 (rotr e 6 ^^^ rotr e 11 ^^^ rotr e 25)) ((e &&& x5) ^^^ ((4294967295 - e) &&& x6))) kt) wt = on from HON.out.symm]
      go_upto_region 8 with fail
      refine rg_begin (fun W => W = wr.drew.drew.drew) [] [1, 3, 6] [0, 2, 5, 8, 9, 10, 11, 12, 13, 14, 15, 16, 17, 18, 19, 20, 21, 22, 1, 3, 4, 6, 7, 23, 24] 0 mixed (by kernel_rfl) (fun _ _ _ _ e hh => ⟨e.symm.trans hh.1, hh.2⟩) ?_
      simp only [pick, List.map_cons, List.map_nil, List.getD_cons_zero, List.getD_cons_succ]
      have hS3 : (fun W => W = wr.drew.drew.drew) _ := rfl
      refine rg_take (v := ?v3_0) rfl rfl hS3 ?y3_0 ?_
      case y3_0 => intro W hW; (try subst hW); go_simp; try with_reducible rfl
      simp only [Act.put, List.setIfInBounds_toArray, List.set_cons_zero, List.set_cons_succ]
      refine rg_take (v := ?v3_2) rfl rfl hS3 ?y3_2 ?_
      case y3_2 => intro W hW; (try subst hW); go_simp; try with_reducible rfl
      simp only [Act.put, List.setIfInBounds_toArray, List.set_cons_zero, List.set_cons_succ]
      refine rg_take (v := ?v3_5) rfl rfl hS3 ?y3_5 ?_
      case y3_5 => intro W hW; (try subst hW); go_simp; try with_reducible rfl
      simp only [Act.put, List.setIfInBounds_toArray, List.set_cons_zero, List.set_cons_succ]
      refine rg_take (v := ?v3_8) rfl rfl hS3 ?y3_8 ?_
      case y3_8 => intro W hW; (try subst hW); go_simp; try with_reducible rfl
      simp only [Act.put, List.setIfInBounds_toArray, List.set_cons_zero, List.set_cons_succ]
      refine rg_take rfl rfl hS3 (fun W hW => exec_ia0 ia96 _ _ rfl _ 1 _ rfl rfl (by omega)) ?_
      simp only [Act.put, List.setIfInBounds_toArray, List.set_cons_zero, List.set_cons_succ]
      refine rg_take rfl rfl hS3 (fun W hW => exec_wload w94 _ rfl _ _ _ _ _ rfl ((by subst hW; exact g7.drew.drew.drew)) (rfl)) ?_
      simp only [Act.put, List.setIfInBounds_toArray, List.set_cons_zero, List.set_cons_succ]
      refine rg_take rfl rfl hS3 (fun W hW => exec_wand _ _ rfl _ _ rfl rfl (by with_reducible repeat' first | assumption | exact ad_lt _ _ | exact u8_w32 _ | exact not_lt32 _ | exact mod_lt32 _ | refine xor_lt32 ?_ ?_ | refine or_lt32 ?_ ?_ | refine and_lt32 ?_ | refine rotr_lt _ _ ?_ | refine div_lt32 _ ?_) (by with_reducible repeat' first | assumption | exact ad_lt _ _ | exact u8_w32 _ | exact not_lt32 _ | exact mod_lt32 _ | refine xor_lt32 ?_ ?_ | refine or_lt32 ?_ ?_ | refine and_lt32 ?_ | refine rotr_lt _ _ ?_ | refine div_lt32 _ ?_)) ?_
      simp only [Act.put, List.setIfInBounds_toArray, List.set_cons_zero, List.set_cons_succ]
      refine rg_take (v := ?v3_12) rfl rfl hS3 ?y3_12 ?_
      case y3_12 => intro W hW; (try subst hW); go_simp; try with_reducible rfl
      simp only [Act.put, List.setIfInBounds_toArray, List.set_cons_zero, List.set_cons_succ]
      refine rg_take rfl rfl hS3 (fun W hW => exec_ia0 ia96 _ _ rfl _ 2 _ rfl rfl (by omega)) ?_
      simp only [Act.put, List.setIfInBounds_toArray, List.set_cons_zero, List.set_cons_succ]
      refine rg_take rfl rfl hS3 (fun W hW => exec_wload w94 _ rfl _ _ _ _ _ rfl ((by subst hW; exact g7.drew.drew.drew)) (rfl)) ?_
      simp only [Act.put, List.setIfInBounds_toArray, List.set_cons_zero, List.set_cons_succ]
      refine rg_take rfl rfl hS3 (fun W hW => exec_wand _ _ rfl _ _ rfl rfl (by with_reducible repeat' first | assumption | exact ad_lt _ _ | exact u8_w32 _ | exact not_lt32 _ | exact mod_lt32 _ | refine xor_lt32 ?_ ?_ | refine or_lt32 ?_ ?_ | refine and_lt32 ?_ | refine rotr_lt _ _ ?_ | refine div_lt32 _ ?_) (by with_reducible repeat' first | assumption | exact ad_lt _ _ | exact u8_w32 _ | exact not_lt32 _ | exact mod_lt32 _ | refine xor_lt32 ?_ ?_ | refine or_lt32 ?_ ?_ | refine and_lt32 ?_ | refine rotr_lt _ _ ?_ | refine div_lt32 _ ?_)) ?_
      simp only [Act.put, List.setIfInBounds_toArray, List.set_cons_zero, List.set_cons_succ]
      refine rg_take rfl rfl hS3 (fun W hW => exec_wxor _ _ rfl _ _ rfl rfl (by with_reducible repeat' first | assumption | exact ad_lt _ _ | exact u8_w32 _ | exact not_lt32 _ | exact mod_lt32 _ | refine xor_lt32 ?_ ?_ | refine or_lt32 ?_ ?_ | refine and_lt32 ?_ | refine rotr_lt _ _ ?_ | refine div_lt32 _ ?_) (by with_reducible repeat' first | assumption | exact ad_lt _ _ | exact u8_w32 _ | exact not_lt32 _ | exact mod_lt32 _ | refine xor_lt32 ?_ ?_ | refine or_lt32 ?_ ?_ | refine and_lt32 ?_ | refine rotr_lt _ _ ?_ | refine div_lt32 _ ?_)) ?_
      simp only [Act.put, List.setIfInBounds_toArray, List.set_cons_zero, List.set_cons_succ]
      refine rg_take rfl rfl hS3 (fun W hW => exec_ia0 ia96 _ _ rfl _ 1 _ rfl rfl (by omega)) ?_
      simp only [Act.put, List.setIfInBounds_toArray, List.set_cons_zero, List.set_cons_succ]
      refine rg_take rfl rfl hS3 (fun W hW => exec_wload w94 _ rfl _ _ _ _ _ rfl ((by subst hW; exact g7.drew.drew.drew)) (rfl)) ?_
      simp only [Act.put, List.setIfInBounds_toArray, List.set_cons_zero, List.set_cons_succ]
      refine rg_take rfl rfl hS3 (fun W hW => exec_ia0 ia96 _ _ rfl _ 2 _ rfl rfl (by omega)) ?_
      simp only [Act.put, List.setIfInBounds_toArray, List.set_cons_zero, List.set_cons_succ]
      refine rg_take rfl rfl hS3 (fun W hW => exec_wload w94 _ rfl _ _ _ _ _ rfl ((by subst hW; exact g7.drew.drew.drew)) (rfl)) ?_
      simp only [Act.put, List.setIfInBounds_toArray, List.set_cons_zero, List.set_cons_succ]
      refine rg_take rfl rfl hS3 (fun W hW => exec_wand _ _ rfl _ _ rfl rfl (by with_reducible repeat' first | assumption | exact ad_lt _ _ | exact u8_w32 _ | exact not_lt32 _ | exact mod_lt32 _ | refine xor_lt32 ?_ ?_ | refine or_lt32 ?_ ?_ | refine and_lt32 ?_ | refine rotr_lt _ _ ?_ | refine div_lt32 _ ?_) (by with_reducible repeat' first | assumption | exact ad_lt _ _ | exact u8_w32 _ | exact not_lt32 _ | exact mod_lt32 _ | refine xor_lt32 ?_ ?_ | refine or_lt32 ?_ ?_ | refine and_lt32 ?_ | refine rotr_lt _ _ ?_ | refine div_lt32 _ ?_)) ?_
      simp only [Act.put, List.setIfInBounds_toArray, List.set_cons_zero, List.set_cons_succ]
      refine rg_take rfl rfl hS3 (fun W hW => exec_wxor _ _ rfl _ _ rfl rfl (by with_reducible repeat' first | assumption | exact ad_lt _ _ | exact u8_w32 _ | exact not_lt32 _ | exact mod_lt32 _ | refine xor_lt32 ?_ ?_ | refine or_lt32 ?_ ?_ | refine and_lt32 ?_ | refine rotr_lt _ _ ?_ | refine div_lt32 _ ?_) (by with_reducible repeat' first | assumption | exact ad_lt _ _ | exact u8_w32 _ | exact not_lt32 _ | exact mod_lt32 _ | refine xor_lt32 ?_ ?_ | refine or_lt32 ?_ ?_ | refine and_lt32 ?_ | refine rotr_lt _ _ ?_ | refine div_lt32 _ ?_)) ?_
      simp only [Act.put, List.setIfInBounds_toArray, List.set_cons_zero, List.set_cons_succ]
      refine rg_one rfl rfl ?_; intro K hK; go_simp
      with_reducible refine (A2 _).out.mono ?_
      rintro y _ ⟨rfl, rfl⟩
      refine hK _ _ (fun _ => hS3) ?_; clear hK
      refine rg_one rfl rfl ?_; intro K hK; go_simp
      with_reducible refine (A13 _).out.mono ?_
      rintro y _ ⟨rfl, rfl⟩
      refine hK _ _ (fun _ => hS3) ?_; clear hK
      refine rg_take rfl rfl hS3 (fun W hW => exec_wxor _ _ rfl _ _ rfl rfl (by with_reducible repeat' first | assumption | exact ad_lt _ _ | exact u8_w32 _ | exact not_lt32 _ | exact mod_lt32 _ | refine xor_lt32 ?_ ?_ | refine or_lt32 ?_ ?_ | refine and_lt32 ?_ | refine rotr_lt _ _ ?_ | refine div_lt32 _ ?_) (by with_reducible repeat' first | assumption | exact ad_lt _ _ | exact u8_w32 _ | exact not_lt32 _ | exact mod_lt32 _ | refine xor_lt32 ?_ ?_ | refine or_lt32 ?_ ?_ | refine and_lt32 ?_ | refine rotr_lt _ _ ?_ | refine div_lt32 _ ?_)) ?_
      simp only [Act.put, List.setIfInBounds_toArray, List.set_cons_zero, List.set_cons_succ]
      refine rg_one rfl rfl ?_; intro K hK; go_simp
      with_reducible refine (A22 _).out.mono ?_
      rintro y _ ⟨rfl, rfl⟩
      refine hK _ _ (fun _ => hS3) ?_; clear hK
      refine rg_take rfl rfl hS3 (fun W hW => exec_wxor _ _ rfl _ _ rfl rfl (by with_reducible repeat' first | assumption | exact ad_lt _ _ | exact u8_w32 _ | exact not_lt32 _ | exact mod_lt32 _ | refine xor_lt32 ?_ ?_ | refine or_lt32 ?_ ?_ | refine and_lt32 ?_ | refine rotr_lt _ _ ?_ | refine div_lt32 _ ?_) (by with_reducible repeat' first | assumption | exact ad_lt _ _ | exact u8_w32 _ | exact not_lt32 _ | exact mod_lt32 _ | refine xor_lt32 ?_ ?_ | refine or_lt32 ?_ ?_ | refine and_lt32 ?_ | refine rotr_lt _ _ ?_ | refine div_lt32 _ ?_)) ?_
      simp only [Act.put, List.setIfInBounds_toArray, List.set_cons_zero, List.set_cons_succ]
      refine rg_take rfl rfl hS3 (fun W hW => exec_wadd _ _ rfl _ _ rfl rfl) ?_
      simp only [Act.put, List.setIfInBounds_toArray, List.set_cons_zero, List.set_cons_succ]
      refine rg_take (v := ?v3_24) rfl rfl hS3 ?y3_24 ?_
      case y3_24 => intro W hW; (try subst hW); go_simp; try with_reducible rfl
      simp only [Act.put, List.setIfInBounds_toArray, List.set_cons_zero, List.set_cons_succ]
      refine rg_done (by kernel_rfl) ?_
      rw [show ad (rotr a 2 ^^^ rotr a 13 ^^^ rotr a 22) ((a &&& x1) ^^^ (a &&& x2) ^^^ (x1 &&& x2)) = tw from HTW.out.symm]
      have g7' := g7.drew.drew.drew
      go_wp2_with (first
        | ((with_reducible refine at_dst 81 ?_); refine wpList_yield rfl _ (exec_wadd _ _ rfl _ _ rfl rfl) ?_)
        | ((with_reducible refine at_dst 83 ?_); refine wpList_yield rfl _ (exec_ia0 ia96 _ _ rfl _ 1 _ rfl rfl (by omega)) ?_)
        | ((with_reducible refine at_dst 84 ?_); refine wpList_yield rfl _ (exec_wload w94 _ rfl _ _ _ _ _ rfl ((g7')) (rfl)) ?_)
        | ((with_reducible refine at_dst 85 ?_); refine wpList_yield rfl _ (exec_ia0 ia96 _ _ rfl _ 2 _ rfl rfl (by omega)) ?_)
        | ((with_reducible refine at_dst 86 ?_); refine wpList_yield rfl _ (exec_wload w94 _ rfl _ _ _ _ _ rfl ((g7')) (rfl)) ?_)
        | ((with_reducible refine at_dst 87 ?_); refine wpList_yield rfl _ (exec_ia0 ia96 _ _ rfl _ 3 _ rfl rfl (by omega)) ?_)
        | ((with_reducible refine at_dst 88 ?_); refine wpList_yield rfl _ (exec_wload w94 _ rfl _ _ _ _ _ rfl ((g7')) (rfl)) ?_)
        | ((with_reducible refine at_dst 90 ?_); refine wpList_yield rfl _ (exec_wadd _ _ rfl _ _ rfl rfl) ?_)
        | ((with_reducible refine at_dst 92 ?_); refine wpList_yield rfl _ (exec_ia0 ia96 _ _ rfl _ 5 _ rfl rfl (by omega)) ?_)
        | ((with_reducible refine at_dst 93 ?_); refine wpList_yield rfl _ (exec_wload w94 _ rfl _ _ _ _ _ rfl ((g7')) (rfl)) ?_)
        | ((with_reducible refine at_dst 94 ?_); refine wpList_yield rfl _ (exec_ia0 ia96 _ _ rfl _ 6 _ rfl rfl (by omega)) ?_)
        | ((with_reducible refine at_dst 95 ?_); refine wpList_yield rfl _ (exec_wload w94 _ rfl _ _ _ _ _ rfl ((g7')) (rfl)) ?_)
        | ((with_reducible refine at_dst 96 ?_); refine wpList_yield rfl _ (exec_build _ rfl (wvs [ad on tw, a, x1, x2, ad x3 on, e, x5, x6]).toArray (by kernel_rfl)) ?_)
        | ((with_reducible refine at_op (Op.store 96 (.tmp 7) (.tmp 96)) ?_); refine wpList_store_at at96.i rfl (.tmp 7) (.tmp 96) rfl n4 0 96 (wvs [a, x1, x2, x3, e, x5, x6, x7]) (wvs [ad on tw, a, x1, x2, ad x3 on, e, x5, x6]) rfl rfl g7' rfl (by rw [wvs_length]; exact Nat.le_refl 8) (wvs_one _) ?_; intro w1 hb1 hg1 hs1))
      rw [splice_all _ _ (by rw [wvs_length, wvs_length]; rfl)] at hb1
      go_roundw
      case rel =>
        exact ⟨t + 1, ad on tw, a, x1, x2, ad x3 on, e, x5, x6, by omega, by go_num, ⟨ad_lt _ _, l0, l1, l2, ad_lt _ _, l4, l5, l6⟩, HR', g1.drew.drew.drew.grown hg1 (by simp; omega), g3.drew.drew.drew.grown hg1 (by simp; omega), g5.drew.drew.drew.grown hg1 (by simp; omega), g6.drew.drew.drew.grown hg1 (by simp; omega), hb1,
          (Below.drew (Below.drew (Below.drew g0))).grown hg1 g0.size (by intro k hk; cases hk; omega)⟩
      case measure => simp only [intOf]; omega
    · obtain rfl : t = 64 := by omega
      have HV : Hid ([a, x1, x2, x3, e, x5, x6, x7] = R) := Lib.hid (by rw [← HEN.out]; exact HR.out)
      rw [HV.out] at g7
      clear HV HR HAT HEN l0 l1 l2 l3 l4 l5 l6 l7 ht htl g5 g6
      have HSET := Lib.hid (fun (j : Nat) (hj : j < 8) => zipT_set h R j HH.out HR2.out hj)
      have HGET := Lib.hid (fun (j : Nat) (hj : j < 8) => zipT_get h R j HH.out HR2.out hj)
      have HZL := Lib.hid (fun (j : Nat) (hj : j ≤ 8) => zipT_length h R j HH.out HR2.out hj)
      have HZE := Lib.hid (zipT_end h R HH.out)
      have HZ0 := Lib.hid (zipT_zero h R)
      go_wp2_with fail
      go_loopw [98] (fun i wr => ∃ j : Nat, j ≤ 8 ∧ i = .int .i64 (j : Int) ∧ Blk wr w.heap.size 96 (wvs (zipT h R j)) ∧ Blk wr (w.heap.size + 2) 96 (wvs (zw 8)) ∧ Blk wr n4 96 (wvs R) ∧ Below w.heap.size w wr) (fun i _ => 8 - (intOf i).toNat)
      case atStart => exact ⟨0, by omega, by go_num, by rw [HZ0.out]; exact g1, g3, g7, g0⟩
      case round =>
        clear g1 g3 g7 g0
        obtain ⟨j, hj, rfl, g1, g3, g7, g0⟩ := hrel
        by_cases hjl : j < 8
        · have hj0 : (j : Int) < 8 := by omega
          obtain ⟨p, hp⟩ : ∃ p, p = h.getD j 0 := ⟨_, rfl⟩
          obtain ⟨q, hq⟩ : ∃ q, q = R.getD j 0 := ⟨_, rfl⟩
          have ep : Hid ((zipT h R j)[j]? = some p) := Lib.hid (by rw [hp]; exact HGET.out j hjl)
          have eq : Hid (R[j]? = some q) := Lib.hid (by rw [hq]; exact getD_some _ _ (by rw [HR2.out]; exact hjl))
          have es : Hid ((zipT h R j).set j (ad p q) = zipT h R (j + 1)) := Lib.hid (by rw [hp, hq]; exact HSET.out j hjl)
          have el : Hid (j < (wvs (zipT h R j)).length) := Lib.hid (by rw [wvs_length, HZL.out j hj]; exact hjl)
          clear hp hq HSET HGET HZL HZE HZ0
          generalize zipT h R j = zj at *
          go_upto_region 14 with fail
          refine rg_begin (fun W => W = wr.drew) [8] [8] [0, 1, 2, 3, 4, 5, 6, 7, 8] 0 mixed (by kernel_rfl) (fun _ _ _ _ e hh => ⟨e.symm.trans hh.1, hh.2⟩) ?_
          simp only [pick, List.map_cons, List.map_nil, List.getD_cons_zero, List.getD_cons_succ]
          have hS4 : (fun W => W = wr.drew) _ := rfl
          refine rg_take (v := ?v4_0) rfl rfl hS4 ?y4_0 ?_
          case y4_0 => intro W hW; (try subst hW); go_simp; try with_reducible rfl
          simp only [Act.put, List.setIfInBounds_toArray, List.set_cons_zero, List.set_cons_succ]
          refine rg_take rfl rfl hS4 (fun W hW => exec_ia0 ia96 _ _ rfl _ _ _ rfl rfl (by omega)) ?_
          simp only [Act.put, List.setIfInBounds_toArray, List.set_cons_zero, List.set_cons_succ]
          refine rg_take rfl rfl hS4 (fun W hW => exec_wload w94 _ rfl _ _ _ _ _ rfl ((by subst hW; exact g1.drew)) (ep.out)) ?_
          simp only [Act.put, List.setIfInBounds_toArray, List.set_cons_zero, List.set_cons_succ]
          refine rg_take (v := ?v4_3) rfl rfl hS4 ?y4_3 ?_
          case y4_3 => intro W hW; (try subst hW); go_simp; try with_reducible rfl
          simp only [Act.put, List.setIfInBounds_toArray, List.set_cons_zero, List.set_cons_succ]
          refine rg_take rfl rfl hS4 (fun W hW => exec_ia0 ia96 _ _ rfl _ _ _ rfl rfl (by omega)) ?_
          simp only [Act.put, List.setIfInBounds_toArray, List.set_cons_zero, List.set_cons_succ]
          refine rg_take rfl rfl hS4 (fun W hW => exec_wload w94 _ rfl _ _ _ _ _ rfl ((by subst hW; exact g7.drew)) (eq.out)) ?_
          simp only [Act.put, List.setIfInBounds_toArray, List.set_cons_zero, List.set_cons_succ]
          refine rg_take rfl rfl hS4 (fun W hW => exec_wadd _ _ rfl _ _ rfl rfl) ?_
          simp only [Act.put, List.setIfInBounds_toArray, List.set_cons_zero, List.set_cons_succ]
          refine rg_take rfl rfl hS4 (fun W hW => exec_ia0 ia96 _ _ rfl _ _ _ rfl rfl (by omega)) ?_
          simp only [Act.put, List.setIfInBounds_toArray, List.set_cons_zero, List.set_cons_succ]
          refine rg_one rfl rfl ?_; intro K hK
          refine wp_store_one one94 _ _ rfl _ _ _ _ _ rfl rfl rfl g1.drew el.out ?_
          have g1' : Blk ((wr.drew).setCell ⟨w.heap.size, j, none⟩ (.int .u32 ((ad p q : Nat) : Int))) w.heap.size 96 (wvs (zipT h R (j + 1))) := by
            have := (Blk.drew g1).setw (i := j) (n := ad p q)
            rwa [es.out] at this
          have g3' := (Blk.drew g3).far (p := ⟨w.heap.size, j, none⟩) (by simp) (.int .u32 ((ad p q : Nat) : Int))
          have g7' := (Blk.drew g7).far (p := ⟨w.heap.size, j, none⟩) (by simp; omega) (.int .u32 ((ad p q : Nat) : Int))
          have g0' := (Below.drew g0).setCell (p := ⟨w.heap.size, j, none⟩) (by simp) (.int .u32 ((ad p q : Nat) : Int))
          refine hK _ _ (fun h => by cases h) ?_; clear hK
          refine rg_done (by kernel_rfl) ?_
          go_wp2_with fail
          go_roundw
          case rel => exact ⟨j + 1, by omega, by go_num, g1', g3', g7', g0'⟩
          case measure => simp only [intOf]; omega
        · obtain rfl : j = 8 := by omega
          rw [HZE.out, ← HR3.out] at g1
          have hrl : Hid (res.length = 8) := Lib.hid (by rw [HR3.out, List.length_zipWith, HH.out, HR2.out]; rfl)
          clear HZE HSET HGET HZL HZ0 hjl hj HR3
          go_wp2_with (first
            | ((with_reducible refine at_dst 110 ?_); refine wpList_yield rfl _ (exec_load_agg at96 (.tmp 2) rfl _ 96 (wvs res) rfl g1 (by rw [wvs_length]; exact hrl.out)) ?_)
            | ((with_reducible refine at_op (Op.store 96 (.tmp 4) (.tmp 110)) ?_); refine wpList_store_at at96.i rfl (.tmp 4) (.tmp 110) rfl (w.heap.size + 2) 0 96 (wvs (zw 8)) (wvs res) rfl rfl g3 (by rw [wvs_length]; exact hrl.out) (by rw [wvs_length, zw_length]; omega) (wvs_one _) ?_; intro w1 hb1 hg1 hs1))
          (try simp only [Exit.inBlock, Exit.then])
          rw [splice_all _ _ (by rw [wvs_length, wvs_length, zw_length]; exact hrl.out.symm)] at hb1
          refine bodyPost_ret (ret_cell rfl at96 _ _ (w.heap.size + 2) 96 (wvs res) rfl hb1 (by rw [wvs_length]; exact hrl.out)) rfl ?_
          exact ⟨rfl, g0.grown hg1 g0.size (by intro k hk; cases hk; omega)⟩
end Go.Proofs.Ytehbahobkgoapaa
