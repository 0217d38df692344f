import Derived.Lib.QuoteBits
import Derived.Laws.BitsAllLaws
import Derived.Deep.Cut
import Derived.Deep.CutRange
import Derived.ChangeSame
import Derived.Deep.Slices
import Derived.Lib.SmallJoins
import Derived.Test.YtehbahobkgoapaaPSS1
namespace Go.Proofs.Ytehbahobkgoapaa
open Go Go.RowKit
set_option linter.unusedSimpArgs false
set_option linter.unusedVariables false
/-- What a step's rounds come to. -/
theorem step_parts (h : List Nat) (b : List UInt8) (hh : h.length = 8) : ∃ (a0 a1 a2 a3 a4 a5 a6 a7 : Nat) (R : List Nat), h = [a0, a1, a2, a3, a4, a5, a6, a7] ∧ R.length = 8 ∧ step h b = List.zipWith ad h R ∧ rnds shaK (sched b) a0 a1 a2 a3 a4 a5 a6 a7 = R := by
  obtain ⟨a0, a1, a2, a3, a4, a5, a6, a7, rfl⟩ := eight hh
  exact ⟨a0, a1, a2, a3, a4, a5, a6, a7, _, rfl, rnds_length _ _ _ _ _ _ _ _ _ _, step_eq _ _ _ _ _ _ _ _ b, rfl⟩
theorem two_rows (u : World) : Blk ((u.alloc (.cells (wvs (zw 64)).toArray 176)).alloc (.cells (wvs (zw 64)).toArray 176)) u.heap.size 176 (wvs (zw 64)) ∧ Blk ((u.alloc (.cells (wvs (zw 64)).toArray 176)).alloc (.cells (wvs (zw 64)).toArray 176)) (u.heap.size + 1) 176 (wvs (zw 64)) ∧
    Below u.heap.size u ((u.alloc (.cells (wvs (zw 64)).toArray 176)).alloc (.cells (wvs (zw 64)).toArray 176)) := by
  refine ⟨(Blk.new _ _ _).alloc _, ?_, ((Below.refl _ _).alloc (Nat.le_refl _) _).alloc (by simp) _⟩
  have := Blk.new (u.alloc (.cells (wvs (zw 64)).toArray 176)) 176 (wvs (zw 64))
  rwa [show (u.alloc (.cells (wvs (zw 64)).toArray 176)).heap.size = u.heap.size + 1 by simp] at this
set_option maxRecDepth 100000 in
set_option maxHeartbeats 4000000 in
theorem step_any (h : List Nat) (b : List UInt8) (w : World) (hh : h.length = 8) (hlt : ∀ x ∈ h, x < 4294967296) (hl : b.length = 64) :
    Calls Try.prog 81 #[arrW h, arr8 b] w fun e w' => e = .returned (arrW (step h b)) ∧ Below w.heap.size w w' := by
  have HL := Lib.hid hl
  have HH := Lib.hid hh
  have b1 : Blk (w.alloc (.cells (wvs h).toArray 96)) w.heap.size 96 (wvs h) := Blk.new _ _ _
  have b2 : Blk ((w.alloc (.cells (wvs h).toArray 96)).alloc (.cells (bvs b).toArray 97)) (w.heap.size + 1) 97 (bvs b) := by
    have := Blk.new (w.alloc (.cells (wvs h).toArray 96)) 97 (bvs b)
    rwa [show (w.alloc (.cells (wvs h).toArray 96)).heap.size = w.heap.size + 1 by simp] at this
  have b3 : Blk (((w.alloc (.cells (wvs h).toArray 96)).alloc (.cells (bvs b).toArray 97)).alloc (.cells (wvs (zw 8)).toArray 96)) (w.heap.size + 2) 96 (wvs (zw 8)) := by
    have := Blk.new ((w.alloc (.cells (wvs h).toArray 96)).alloc (.cells (bvs b).toArray 97)) 96 (wvs (zw 8))
    rwa [show ((w.alloc (.cells (wvs h).toArray 96)).alloc (.cells (bvs b).toArray 97)).heap.size = w.heap.size + 2 by simp] at this
  have hall := And.intro ((b1.alloc (.cells (bvs b).toArray 97)).alloc (.cells (wvs (zw 8)).toArray 96)) (And.intro (b2.alloc (.cells (wvs (zw 8)).toArray 96)) (And.intro b3
    ((((Below.refl w.heap.size w).alloc (Nat.le_refl _) (.cells (wvs h).toArray 96)).alloc (by simp) (.cells (bvs b).toArray 97)).alloc (by simp; omega) (.cells (wvs (zw 8)).toArray 96))))
  have C1 := fun u => Lib.hid (schedule_any b u hl)
  have C2 := fun u => Lib.hid (constants_any u)
  have HP := Lib.hid (step_parts h b hh)
  have HWL := Lib.hid (sched_length b)
  have HKL := Lib.hid shaK_length
  have HAT := Lib.hid (rnds_at (sched b) (sched_length b))
  have HEN := Lib.hid (rnds_end (sched b) (sched_length b))
  have HG := Lib.hid hlt
  clear b1 b2 b3 hl hh hlt
  generalize step h b = res at *
  generalize sched b = ws at *
  obtain ⟨ks, hks⟩ : ∃ ks, ks = shaK := ⟨_, rfl⟩
  rw [← hks] at HP HKL HAT HEN
  rw [← hks] at C2
  clear hks
  unfold arr8 arrW at *
  go_enter Try.func81, Try.ntmps81
  go_upto_region 1 with fail
  generalize hW : World.alloc (World.alloc (World.alloc w _) _) _ = w0
  have h3 : Blk w0 w.heap.size 96 (wvs h) ∧ Blk w0 (w.heap.size + 1) 97 (bvs b) ∧ Blk w0 (w.heap.size + 2) 96 (wvs (zw 8)) ∧ Below w.heap.size w w0 := by rw [← hW]; exact hall
  clear hall hW
  obtain ⟨c1, c2, c3, c4⟩ := h3
  have A := fun u => Lib.hid (two_rows u)
  go_upto_region 2 with (first
    | ((with_reducible refine at_dst 14 ?_); refine wpList_yield rfl _ (exec_load_agg at97 (.tmp 3) rfl _ 97 (bvs b) rfl c2 (by rw [bvs_length]; exact HL.out)) ?_)
    | (go_at_call 135; with_reducible refine (C1 _).out.mono ?_; rintro e w1 ⟨rfl, hw1⟩)
    | (go_at_call 136; with_reducible refine (C2 _).out.mono ?_; rintro e w2 ⟨rfl, hw2⟩)
    | ((with_reducible refine at_op (Op.store 176 (.tmp 5) (.tmp 15)) ?_); refine wpList_store_at at176.i rfl (.tmp 5) (.tmp 15) rfl w2.heap.size 0 176 (wvs (zw 64)) (wvs ws) rfl rfl (A w2).out.1 (by rw [wvs_length]; exact HWL.out) (by rw [wvs_length, zw_length]; omega) (wvs_one _) ?_; intro w3 hb3 hg3 hs3)
    | ((with_reducible refine at_op (Op.store 176 (.tmp 6) (.tmp 16)) ?_); refine wpList_store_at at176.i rfl (.tmp 6) (.tmp 16) rfl (w2.heap.size + 1) 0 176 (wvs (zw 64)) (wvs ks) rfl rfl ((A w2).out.2.1.grown hg3 (by simp)) (by rw [wvs_length]; exact HKL.out) (by rw [wvs_length, zw_length]; omega) (wvs_one _) ?_; intro w4 hb4 hg4 hs4))
  have hB : Below w0.heap.size w0 w2 := hw1.trans (hw2.mono hw1.size)
  have hB2 : Below w0.heap.size w0 ((w2.alloc (.cells (wvs (zw 64)).toArray 176)).alloc (.cells (wvs (zw 64)).toArray 176)) := hB.trans ((A w2).out.2.2.mono hB.size)
  have hB3 : Below w0.heap.size w0 w3 := hB2.grown hg3 hB2.size (by intro k hk; cases hk; exact hB.size)
  have hB4 : Below w0.heap.size w0 w4 := hB3.grown hg4 hB3.size (by intro k hk; cases hk; have := hB.size; omega)
  have hs0 : w0.heap.size ≤ w2.heap.size := hB.size
  have hs24 : w2.heap.size + 2 ≤ w4.heap.size := by rw [hs4, hs3]; simp
  have l1 := c1.lt
  have l3 := c3.lt
  have d1 := c1.below hB4 c1.lt
  have d3 := c3.below hB4 c3.lt
  have d5 : Blk w4 w2.heap.size 176 (wvs ws) := by
    rw [splice_all _ _ (by rw [wvs_length, wvs_length, zw_length, HWL.out])] at hb3
    exact hb3.grown hg4 (by simp)
  have d6 : Blk w4 (w2.heap.size + 1) 176 (wvs ks) := by rwa [splice_all _ _ (by rw [wvs_length, wvs_length, zw_length, HKL.out])] at hb4
  have d0 : Below w.heap.size w w4 := c4.trans (hB4.mono c4.size)
  clear hB hB2 hB3 hB4 hb3 hb4 hg3 hg4 hs3 hs4 hw1 hw2 c1 c2 c3 c4 C1 C2 A
  obtain ⟨a0, a1, a2, a3, a4, a5, a6, a7, R, hp1, hp2, hp3, hp4⟩ := HP.out
  clear HP
  have HR2 := Lib.hid hp2
  have HR3 := Lib.hid hp3
  have HR4 : Hid (rnds (ks.drop 0) (ws.drop 0) a0 a1 a2 a3 a4 a5 a6 a7 = R) := Lib.hid (by rw [List.drop_zero, List.drop_zero]; exact hp4)
  have HI := Lib.hid hp1
  clear hp1 hp2 hp3 hp4
  generalize w2.heap.size = n2 at *
  have b7 : Blk (w4.alloc (.cells (wvs (zw 8)).toArray 96)) w4.heap.size 96 (wvs (zw 8)) := Blk.new _ _ _
  go_upto_region 3 with (first
    | ((with_reducible refine at_dst 17 ?_); refine wpList_yield rfl _ (exec_load_agg at96 (.tmp 2) rfl _ 96 (wvs h) rfl d1 (by rw [wvs_length]; exact HH.out)) ?_)
    | ((with_reducible refine at_op (Op.store 96 (.tmp 7) (.tmp 17)) ?_); refine wpList_store_at at96.i rfl (.tmp 7) (.tmp 17) rfl w4.heap.size 0 96 (wvs (zw 8)) (wvs h) rfl rfl b7 (by rw [wvs_length]; exact HH.out) (by rw [wvs_length, zw_length]; omega) (wvs_one _) ?_; intro w5 hb5 hg5 hs5))
  rw [splice_all _ _ (by rw [wvs_length, wvs_length, zw_length, HH.out])] at hb5
  have e1 := (d1.alloc (.cells (wvs (zw 8)).toArray 96)).grown hg5 (by simp; omega)
  have e3 := (d3.alloc (.cells (wvs (zw 8)).toArray 96)).grown hg5 (by simp; omega)
  have e5 := (d5.alloc (.cells (wvs (zw 8)).toArray 96)).grown hg5 (by simp; omega)
  have e6 := (d6.alloc (.cells (wvs (zw 8)).toArray 96)).grown hg5 (by simp; omega)
  have e0 : Below w.heap.size w w5 := (d0.alloc d0.size (.cells (wvs (zw 8)).toArray 96)).grown hg5 (by have := d0.size; simp; omega) (by intro k hk; cases hk; exact d0.size)
  have hz : w.heap.size + 2 < n2 := by omega
  have hz2 : n2 + 2 ≤ w4.heap.size := hs24
  generalize w4.heap.size = n4 at *
  clear d1 d3 d5 d6 d0 b7 hg5 hs5 l1 l3 hs0 hs24 w0 w1 w3 w4
  rw [HI.out] at hb5
  go_wp2_with fail
  go_loopw [18] (fun i wr => ∃ (t a b c d e f g k : Nat), t ≤ 64 ∧ i = .int .i64 (t : Int) ∧ (a < 4294967296 ∧ b < 4294967296 ∧ c < 4294967296 ∧ d < 4294967296 ∧ e < 4294967296 ∧ f < 4294967296 ∧ g < 4294967296 ∧ k < 4294967296) ∧
    Hid (rnds (ks.drop t) (ws.drop t) a b c d e f g k = R) ∧ Blk wr w.heap.size 96 (wvs h) ∧ Blk wr (w.heap.size + 2) 96 (wvs (zw 8)) ∧ Blk wr n2 176 (wvs ws) ∧ Blk wr (n2 + 1) 176 (wvs ks) ∧ Blk wr n4 96 (wvs [a, b, c, d, e, f, g, k]) ∧ Below w.heap.size w wr) (fun i _ => 64 - (intOf i).toNat)
  case atStart =>
    have hg8 := HG.out
    rw [HI.out] at hg8
    simp only [List.mem_cons, List.not_mem_nil, or_false, forall_eq_or_imp, forall_eq] at hg8
    exact ⟨0, a0, a1, a2, a3, a4, a5, a6, a7, by omega, by go_num, hg8, HR4, e1, e3, e5, e6, hb5, e0⟩
  case round =>
    clear e0 e1 e3 e5 e6 hb5 HR4 w5
    obtain ⟨t, a, x1, x2, x3, e, x5, x6, x7, ht, rfl, ⟨l0, l1, l2, l3, l4, l5, l6, l7⟩, HR, g1, g3, g5, g6, g7, g0⟩ := hrel
    by_cases htl : t < 64
    · have ht0 : (t : Int) < 64 := by omega
      obtain ⟨kt, hkt⟩ : ∃ kt, kt = ks.getD t 0 := ⟨_, rfl⟩
      obtain ⟨wt, hwt⟩ : ∃ wt, wt = ws.getD t 0 := ⟨_, rfl⟩
      have ek : Hid (ks[t]? = some kt) := Lib.hid (by rw [hkt]; exact getD_some _ _ (by rw [HKL.out]; exact htl))
      have ew : Hid (ws[t]? = some wt) := Lib.hid (by rw [hwt]; exact getD_some _ _ (by rw [HWL.out]; exact htl))
      obtain ⟨on, hon⟩ : ∃ on, on = one e x5 x6 x7 kt wt := ⟨_, rfl⟩
      obtain ⟨tw, htw⟩ : ∃ tw, tw = two a x1 x2 := ⟨_, rfl⟩
      have HR' : Hid (rnds (ks.drop (t + 1)) (ws.drop (t + 1)) (ad on tw) a x1 x2 (ad x3 on) e x5 x6 = R) := Lib.hid (by
        rw [hon, htw, hkt, hwt, ← HAT.out t htl]; exact HR.out)
      have HON := Lib.hid hon
      have HTW := Lib.hid htw
      clear hkt hwt hon htw HR HAT HEN
      have E6 := fun u => Lib.hid (right_any e 26 6 6 u l4 (by decide +kernel) (by decide) rfl)
      have E11 := fun u => Lib.hid (right_any e 21 11 11 u l4 (by decide +kernel) (by decide) rfl)
      have E25 := fun u => Lib.hid (right_any e 7 25 25 u l4 (by decide +kernel) (by decide) rfl)
      have A2 := fun u => Lib.hid (right_any a 30 2 2 u l0 (by decide +kernel) (by decide) rfl)
      have A13 := fun u => Lib.hid (right_any a 19 13 13 u l0 (by decide +kernel) (by decide) rfl)
      have A22 := fun u => Lib.hid (right_any a 10 22 22 u l0 (by decide +kernel) (by decide) rfl)
      go_upto_region 6 with fail
      refine rg_begin (fun W => W = wr.drew) [] [] [0, 1, 2, 3, 4, 5] 0 mixed (by kernel_rfl) (fun _ _ _ _ e hh => ⟨e.symm.trans hh.1, hh.2⟩) ?_
      simp only [pick, List.map_cons, List.map_nil, List.getD_cons_zero, List.getD_cons_succ]
      have hS : (fun W => W = wr.drew) _ := rfl
      refine rg_take rfl rfl hS (fun W hW => exec_ia0 ia96 _ _ rfl _ 0 _ rfl rfl (by decide)) ?_
      simp only [Act.put, List.setIfInBounds_toArray, List.set_cons_zero, List.set_cons_succ]
      refine rg_take rfl rfl hS (fun W hW => exec_wload w94 _ rfl _ _ _ _ _ rfl ((by subst hW; exact g7.drew)) (rfl)) ?_
      simp only [Act.put, List.setIfInBounds_toArray, List.set_cons_zero, List.set_cons_succ]
      refine rg_take rfl rfl hS (fun W hW => exec_ia0 ia96 _ _ rfl _ 4 _ rfl rfl (by decide)) ?_
      simp only [Act.put, List.setIfInBounds_toArray, List.set_cons_zero, List.set_cons_succ]
      refine rg_take rfl rfl hS (fun W hW => exec_wload w94 _ rfl _ _ _ _ _ rfl ((by subst hW; exact g7.drew)) (rfl)) ?_
      simp only [Act.put, List.setIfInBounds_toArray, List.set_cons_zero, List.set_cons_succ]
      refine rg_take (v := ?v1_4) rfl rfl hS ?y1_4 ?_
      case y1_4 => intro W hW; (try subst hW); go_simp; try with_reducible rfl
      simp only [Act.put, List.setIfInBounds_toArray, List.set_cons_zero, List.set_cons_succ]
      refine rg_take (v := ?v1_5) rfl rfl hS ?y1_5 ?_
      case y1_5 => intro W hW; (try subst hW); go_simp; try with_reducible rfl
      simp only [Act.put, List.setIfInBounds_toArray, List.set_cons_zero, List.set_cons_succ]
      refine rg_done (by kernel_rfl) ?_
      go_upto_region 7 with fail
      refine rg_begin (fun W => W = wr.drew.drew) [] [3, 5, 8] [0, 1, 2, 4, 7, 11, 12, 13, 14, 15, 16, 17, 18, 19, 20, 22, 23, 24, 26, 27, 28, 3, 5, 6, 8, 9, 10, 21, 25, 29, 30] 0 mixed (by kernel_rfl) (fun _ _ _ _ e hh => ⟨e.symm.trans hh.1, hh.2⟩) ?_
      simp only [pick, List.map_cons, List.map_nil, List.getD_cons_zero, List.getD_cons_succ]
      have hS2 : (fun W => W = wr.drew.drew) _ := rfl
      refine rg_take rfl rfl hS2 (fun W hW => exec_ia0 ia96 _ _ rfl _ 7 _ rfl rfl (by decide)) ?_
      simp only [Act.put, List.setIfInBounds_toArray, List.set_cons_zero, List.set_cons_succ]
      refine rg_take rfl rfl hS2 (fun W hW => exec_wload w94 _ rfl _ _ _ _ _ rfl ((by subst hW; exact g7.drew.drew)) (rfl)) ?_
      simp only [Act.put, List.setIfInBounds_toArray, List.set_cons_zero, List.set_cons_succ]
      refine rg_take (v := ?v2_2) rfl rfl hS2 ?y2_2 ?_
      case y2_2 => intro W hW; (try subst hW); go_simp; try with_reducible rfl
      simp only [Act.put, List.setIfInBounds_toArray, List.set_cons_zero, List.set_cons_succ]
      refine rg_take (v := ?v2_4) rfl rfl hS2 ?y2_4 ?_
      case y2_4 => intro W hW; (try subst hW); go_simp; try with_reducible rfl
      simp only [Act.put, List.setIfInBounds_toArray, List.set_cons_zero, List.set_cons_succ]
      refine rg_take (v := ?v2_7) rfl rfl hS2 ?y2_7 ?_
      case y2_7 => intro W hW; (try subst hW); go_simp; try with_reducible rfl
      simp only [Act.put, List.setIfInBounds_toArray, List.set_cons_zero, List.set_cons_succ]
      refine rg_take (v := ?v2_11) rfl rfl hS2 ?y2_11 ?_
      case y2_11 => intro W hW; (try subst hW); go_simp; try with_reducible rfl
      simp only [Act.put, List.setIfInBounds_toArray, List.set_cons_zero, List.set_cons_succ]
      refine rg_take rfl rfl hS2 (fun W hW => exec_ia0 ia96 _ _ rfl _ 5 _ rfl rfl (by decide)) ?_
      simp only [Act.put, List.setIfInBounds_toArray, List.set_cons_zero, List.set_cons_succ]
      refine rg_take rfl rfl hS2 (fun W hW => exec_wload w94 _ rfl _ _ _ _ _ rfl ((by subst hW; exact g7.drew.drew)) (rfl)) ?_
      simp only [Act.put, List.setIfInBounds_toArray, List.set_cons_zero, List.set_cons_succ]
      refine rg_take rfl rfl hS2 (fun W hW => exec_wand _ _ rfl _ _ rfl rfl (by with_reducible repeat' first | assumption | exact ad_lt _ _ | exact u8_w32 _ | exact not_lt32 _ | exact mod_lt32 _ | refine xor_lt32 ?_ ?_ | refine or_lt32 ?_ ?_ | refine and_lt32 ?_ | refine rotr_lt _ _ ?_ | refine div_lt32 _ ?_) (by with_reducible repeat' first | assumption | exact ad_lt _ _ | exact u8_w32 _ | exact not_lt32 _ | exact mod_lt32 _ | refine xor_lt32 ?_ ?_ | refine or_lt32 ?_ ?_ | refine and_lt32 ?_ | refine rotr_lt _ _ ?_ | refine div_lt32 _ ?_)) ?_
      simp only [Act.put, List.setIfInBounds_toArray, List.set_cons_zero, List.set_cons_succ]
      refine rg_take (v := ?v2_15) rfl rfl hS2 ?y2_15 ?_
      case y2_15 => intro W hW; (try subst hW); go_simp; try with_reducible rfl
      simp only [Act.put, List.setIfInBounds_toArray, List.set_cons_zero, List.set_cons_succ]
      refine rg_take rfl rfl hS2 (fun W hW => exec_wnot _ rfl _ rfl (by with_reducible repeat' first | assumption | exact ad_lt _ _ | exact u8_w32 _ | exact not_lt32 _ | exact mod_lt32 _ | refine xor_lt32 ?_ ?_ | refine or_lt32 ?_ ?_ | refine and_lt32 ?_ | refine rotr_lt _ _ ?_ | refine div_lt32 _ ?_)) ?_
      simp only [Act.put, List.setIfInBounds_toArray, List.set_cons_zero, List.set_cons_succ]
      refine rg_take rfl rfl hS2 (fun W hW => exec_ia0 ia96 _ _ rfl _ 6 _ rfl rfl (by decide)) ?_
      simp only [Act.put, List.setIfInBounds_toArray, List.set_cons_zero, List.set_cons_succ]
      refine rg_take rfl rfl hS2 (fun W hW => exec_wload w94 _ rfl _ _ _ _ _ rfl ((by subst hW; exact g7.drew.drew)) (rfl)) ?_
      simp only [Act.put, List.setIfInBounds_toArray, List.set_cons_zero, List.set_cons_succ]
      refine rg_take rfl rfl hS2 (fun W hW => exec_wand _ _ rfl _ _ rfl rfl (by with_reducible repeat' first | assumption | exact ad_lt _ _ | exact u8_w32 _ | exact not_lt32 _ | exact mod_lt32 _ | refine xor_lt32 ?_ ?_ | refine or_lt32 ?_ ?_ | refine and_lt32 ?_ | refine rotr_lt _ _ ?_ | refine div_lt32 _ ?_) (by with_reducible repeat' first | assumption | exact ad_lt _ _ | exact u8_w32 _ | exact not_lt32 _ | exact mod_lt32 _ | refine xor_lt32 ?_ ?_ | refine or_lt32 ?_ ?_ | refine and_lt32 ?_ | refine rotr_lt _ _ ?_ | refine div_lt32 _ ?_)) ?_
      simp only [Act.put, List.setIfInBounds_toArray, List.set_cons_zero, List.set_cons_succ]
      refine rg_take rfl rfl hS2 (fun W hW => exec_wxor _ _ rfl _ _ rfl rfl (by with_reducible repeat' first | assumption | exact ad_lt _ _ | exact u8_w32 _ | exact not_lt32 _ | exact mod_lt32 _ | refine xor_lt32 ?_ ?_ | refine or_lt32 ?_ ?_ | refine and_lt32 ?_ | refine rotr_lt _ _ ?_ | refine div_lt32 _ ?_) (by with_reducible repeat' first | assumption | exact ad_lt _ _ | exact u8_w32 _ | exact not_lt32 _ | exact mod_lt32 _ | refine xor_lt32 ?_ ?_ | refine or_lt32 ?_ ?_ | refine and_lt32 ?_ | refine rotr_lt _ _ ?_ | refine div_lt32 _ ?_)) ?_
      simp only [Act.put, List.setIfInBounds_toArray, List.set_cons_zero, List.set_cons_succ]
      refine rg_take (v := ?v2_22) rfl rfl hS2 ?y2_22 ?_
      case y2_22 => intro W hW; (try subst hW); go_simp; try with_reducible rfl
      simp only [Act.put, List.setIfInBounds_toArray, List.set_cons_zero, List.set_cons_succ]
      refine rg_take rfl rfl hS2 (fun W hW => exec_ia0 ia176 _ _ rfl _ _ _ rfl rfl (by omega)) ?_
      simp only [Act.put, List.setIfInBounds_toArray, List.set_cons_zero, List.set_cons_succ]
      refine rg_take rfl rfl hS2 (fun W hW => exec_wload w94 _ rfl _ _ _ _ _ rfl ((by subst hW; exact g6.drew.drew)) (ek.out)) ?_
      simp only [Act.put, List.setIfInBounds_toArray, List.set_cons_zero, List.set_cons_succ]
      refine rg_take (v := ?v2_26) rfl rfl hS2 ?y2_26 ?_
      case y2_26 => intro W hW; (try subst hW); go_simp; try with_reducible rfl
      simp only [Act.put, List.setIfInBounds_toArray, List.set_cons_zero, List.set_cons_succ]
      refine rg_take rfl rfl hS2 (fun W hW => exec_ia0 ia176 _ _ rfl _ _ _ rfl rfl (by omega)) ?_
      simp only [Act.put, List.setIfInBounds_toArray, List.set_cons_zero, List.set_cons_succ]
      refine rg_take rfl rfl hS2 (fun W hW => exec_wload w94 _ rfl _ _ _ _ _ rfl ((by subst hW; exact g5.drew.drew)) (ew.out)) ?_
      simp only [Act.put, List.setIfInBounds_toArray, List.set_cons_zero, List.set_cons_succ]
      refine rg_one rfl rfl ?_; intro K hK; go_simp
      with_reducible refine (E6 _).out.mono ?_
      rintro y _ ⟨rfl, rfl⟩
      refine hK _ _ (fun _ => hS2) ?_; clear hK
      refine rg_one rfl rfl ?_; intro K hK; go_simp
      with_reducible refine (E11 _).out.mono ?_
      rintro y _ ⟨rfl, rfl⟩
      refine hK _ _ (fun _ => hS2) ?_; clear hK
      refine rg_take rfl rfl hS2 (fun W hW => exec_wxor _ _ rfl _ _ rfl rfl (by with_reducible repeat' first | assumption | exact ad_lt _ _ | exact u8_w32 _ | exact not_lt32 _ | exact mod_lt32 _ | refine xor_lt32 ?_ ?_ | refine or_lt32 ?_ ?_ | refine and_lt32 ?_ | refine rotr_lt _ _ ?_ | refine div_lt32 _ ?_) (by with_reducible repeat' first | assumption | exact ad_lt _ _ | exact u8_w32 _ | exact not_lt32 _ | exact mod_lt32 _ | refine xor_lt32 ?_ ?_ | refine or_lt32 ?_ ?_ | refine and_lt32 ?_ | refine rotr_lt _ _ ?_ | refine div_lt32 _ ?_)) ?_
      simp only [Act.put, List.setIfInBounds_toArray, List.set_cons_zero, List.set_cons_succ]
      refine rg_one rfl rfl ?_; intro K hK; go_simp
      with_reducible refine (E25 _).out.mono ?_
      rintro y _ ⟨rfl, rfl⟩
      refine hK _ _ (fun _ => hS2) ?_; clear hK
      refine rg_take rfl rfl hS2 (fun W hW => exec_wxor _ _ rfl _ _ rfl rfl (by with_reducible repeat' first | assumption | exact ad_lt _ _ | exact u8_w32 _ | exact not_lt32 _ | exact mod_lt32 _ | refine xor_lt32 ?_ ?_ | refine or_lt32 ?_ ?_ | refine and_lt32 ?_ | refine rotr_lt _ _ ?_ | refine div_lt32 _ ?_) (by with_reducible repeat' first | assumption | exact ad_lt _ _ | exact u8_w32 _ | exact not_lt32 _ | exact mod_lt32 _ | refine xor_lt32 ?_ ?_ | refine or_lt32 ?_ ?_ | refine and_lt32 ?_ | refine rotr_lt _ _ ?_ | refine div_lt32 _ ?_)) ?_
      simp only [Act.put, List.setIfInBounds_toArray, List.set_cons_zero, List.set_cons_succ]
      refine rg_take rfl rfl hS2 (fun W hW => exec_wadd _ _ rfl _ _ rfl rfl) ?_
      simp only [Act.put, List.setIfInBounds_toArray, List.set_cons_zero, List.set_cons_succ]
      refine rg_take rfl rfl hS2 (fun W hW => exec_wadd _ _ rfl _ _ rfl rfl) ?_
      simp only [Act.put, List.setIfInBounds_toArray, List.set_cons_zero, List.set_cons_succ]
      refine rg_take rfl rfl hS2 (fun W hW => exec_wadd _ _ rfl _ _ rfl rfl) ?_
      simp only [Act.put, List.setIfInBounds_toArray, List.set_cons_zero, List.set_cons_succ]
      refine rg_take rfl rfl hS2 (fun W hW => exec_wadd _ _ rfl _ _ rfl rfl) ?_
      simp only [Act.put, List.setIfInBounds_toArray, List.set_cons_zero, List.set_cons_succ]
      refine rg_take (v := ?v2_30) rfl rfl hS2 ?y2_30 ?_
      case y2_30 => intro W hW; (try subst hW); go_simp; try with_reducible rfl
      simp only [Act.put, List.setIfInBounds_toArray, List.set_cons_zero, List.set_cons_succ]
      refine rg_done (by kernel_rfl) ?_
      rw [show ad (ad (ad (ad x7 (rotr e 6 ^^^ rotr e 11 ^^^ rotr e 25)) ((e &&& x5) ^^^ ((4294967295 - e) &&& x6))) kt) wt = on from HON.out.symm]
      go_upto_region 8 with fail
      refine rg_begin (fun W => W = wr.drew.drew.drew) [] [1, 3, 6] [0, 2, 5, 8, 9, 10, 11, 12, 13, 14, 15, 16, 17, 18, 19, 20, 21, 22, 1, 3, 4, 6, 7, 23, 24] 0 mixed (by kernel_rfl) (fun _ _ _ _ e hh => ⟨e.symm.trans hh.1, hh.2⟩) ?_
      simp only [pick, List.map_cons, List.map_nil, List.getD_cons_zero, List.getD_cons_succ]
      have hS3 : (fun W => W = wr.drew.drew.drew) _ := rfl
      refine rg_take (v := ?v3_0) rfl rfl hS3 ?y3_0 ?_
      case y3_0 => intro W hW; (try subst hW); go_simp; try with_reducible rfl
      simp only [Act.put, List.setIfInBounds_toArray, List.set_cons_zero, List.set_cons_succ]
      refine rg_take (v := ?v3_2) rfl rfl hS3 ?y3_2 ?_
      case y3_2 => intro W hW; (try subst hW); go_simp; try with_reducible rfl
      simp only [Act.put, List.setIfInBounds_toArray, List.set_cons_zero, List.set_cons_succ]
      refine rg_take (v := ?v3_5) rfl rfl hS3 ?y3_5 ?_
      case y3_5 => intro W hW; (try subst hW); go_simp; try with_reducible rfl
      simp only [Act.put, List.setIfInBounds_toArray, List.set_cons_zero, List.set_cons_succ]
      refine rg_take (v := ?v3_8) rfl rfl hS3 ?y3_8 ?_
      case y3_8 => intro W hW; (try subst hW); go_simp; try with_reducible rfl
      simp only [Act.put, List.setIfInBounds_toArray, List.set_cons_zero, List.set_cons_succ]
      refine rg_take rfl rfl hS3 (fun W hW => exec_ia0 ia96 _ _ rfl _ 1 _ rfl rfl (by decide)) ?_
      simp only [Act.put, List.setIfInBounds_toArray, List.set_cons_zero, List.set_cons_succ]
      refine rg_take rfl rfl hS3 (fun W hW => exec_wload w94 _ rfl _ _ _ _ _ rfl ((by subst hW; exact g7.drew.drew.drew)) (rfl)) ?_
      simp only [Act.put, List.setIfInBounds_toArray, List.set_cons_zero, List.set_cons_succ]
      refine rg_take rfl rfl hS3 (fun W hW => exec_wand _ _ rfl _ _ rfl rfl (by with_reducible repeat' first | assumption | exact ad_lt _ _ | exact u8_w32 _ | exact not_lt32 _ | exact mod_lt32 _ | refine xor_lt32 ?_ ?_ | refine or_lt32 ?_ ?_ | refine and_lt32 ?_ | refine rotr_lt _ _ ?_ | refine div_lt32 _ ?_) (by with_reducible repeat' first | assumption | exact ad_lt _ _ | exact u8_w32 _ | exact not_lt32 _ | exact mod_lt32 _ | refine xor_lt32 ?_ ?_ | refine or_lt32 ?_ ?_ | refine and_lt32 ?_ | refine rotr_lt _ _ ?_ | refine div_lt32 _ ?_)) ?_
      simp only [Act.put, List.setIfInBounds_toArray, List.set_cons_zero, List.set_cons_succ]
      refine rg_take (v := ?v3_12) rfl rfl hS3 ?y3_12 ?_
      case y3_12 => intro W hW; (try subst hW); go_simp; try with_reducible rfl
      simp only [Act.put, List.setIfInBounds_toArray, List.set_cons_zero, List.set_cons_succ]
      refine rg_take rfl rfl hS3 (fun W hW => exec_ia0 ia96 _ _ rfl _ 2 _ rfl rfl (by decide)) ?_
      simp only [Act.put, List.setIfInBounds_toArray, List.set_cons_zero, List.set_cons_succ]
      refine rg_take rfl rfl hS3 (fun W hW => exec_wload w94 _ rfl _ _ _ _ _ rfl ((by subst hW; exact g7.drew.drew.drew)) (rfl)) ?_
      simp only [Act.put, List.setIfInBounds_toArray, List.set_cons_zero, List.set_cons_succ]
      refine rg_take rfl rfl hS3 (fun W hW => exec_wand _ _ rfl _ _ rfl rfl (by with_reducible repeat' first | assumption | exact ad_lt _ _ | exact u8_w32 _ | exact not_lt32 _ | exact mod_lt32 _ | refine xor_lt32 ?_ ?_ | refine or_lt32 ?_ ?_ | refine and_lt32 ?_ | refine rotr_lt _ _ ?_ | refine div_lt32 _ ?_) (by with_reducible repeat' first | assumption | exact ad_lt _ _ | exact u8_w32 _ | exact not_lt32 _ | exact mod_lt32 _ | refine xor_lt32 ?_ ?_ | refine or_lt32 ?_ ?_ | refine and_lt32 ?_ | refine rotr_lt _ _ ?_ | refine div_lt32 _ ?_)) ?_
      simp only [Act.put, List.setIfInBounds_toArray, List.set_cons_zero, List.set_cons_succ]
      refine rg_take rfl rfl hS3 (fun W hW => exec_wxor _ _ rfl _ _ rfl rfl (by with_reducible repeat' first | assumption | exact ad_lt _ _ | exact u8_w32 _ | exact not_lt32 _ | exact mod_lt32 _ | refine xor_lt32 ?_ ?_ | refine or_lt32 ?_ ?_ | refine and_lt32 ?_ | refine rotr_lt _ _ ?_ | refine div_lt32 _ ?_) (by with_reducible repeat' first | assumption | exact ad_lt _ _ | exact u8_w32 _ | exact not_lt32 _ | exact mod_lt32 _ | refine xor_lt32 ?_ ?_ | refine or_lt32 ?_ ?_ | refine and_lt32 ?_ | refine rotr_lt _ _ ?_ | refine div_lt32 _ ?_)) ?_
      simp only [Act.put, List.setIfInBounds_toArray, List.set_cons_zero, List.set_cons_succ]
      refine rg_take rfl rfl hS3 (fun W hW => exec_ia0 ia96 _ _ rfl _ 1 _ rfl rfl (by decide)) ?_
      simp only [Act.put, List.setIfInBounds_toArray, List.set_cons_zero, List.set_cons_succ]
      refine rg_take rfl rfl hS3 (fun W hW => exec_wload w94 _ rfl _ _ _ _ _ rfl ((by subst hW; exact g7.drew.drew.drew)) (rfl)) ?_
      simp only [Act.put, List.setIfInBounds_toArray, List.set_cons_zero, List.set_cons_succ]
      refine rg_take rfl rfl hS3 (fun W hW => exec_ia0 ia96 _ _ rfl _ 2 _ rfl rfl (by decide)) ?_
      simp only [Act.put, List.setIfInBounds_toArray, List.set_cons_zero, List.set_cons_succ]
      refine rg_take rfl rfl hS3 (fun W hW => exec_wload w94 _ rfl _ _ _ _ _ rfl ((by subst hW; exact g7.drew.drew.drew)) (rfl)) ?_
      simp only [Act.put, List.setIfInBounds_toArray, List.set_cons_zero, List.set_cons_succ]
      refine rg_take rfl rfl hS3 (fun W hW => exec_wand _ _ rfl _ _ rfl rfl (by with_reducible repeat' first | assumption | exact ad_lt _ _ | exact u8_w32 _ | exact not_lt32 _ | exact mod_lt32 _ | refine xor_lt32 ?_ ?_ | refine or_lt32 ?_ ?_ | refine and_lt32 ?_ | refine rotr_lt _ _ ?_ | refine div_lt32 _ ?_) (by with_reducible repeat' first | assumption | exact ad_lt _ _ | exact u8_w32 _ | exact not_lt32 _ | exact mod_lt32 _ | refine xor_lt32 ?_ ?_ | refine or_lt32 ?_ ?_ | refine and_lt32 ?_ | refine rotr_lt _ _ ?_ | refine div_lt32 _ ?_)) ?_
      simp only [Act.put, List.setIfInBounds_toArray, List.set_cons_zero, List.set_cons_succ]
      refine rg_take rfl rfl hS3 (fun W hW => exec_wxor _ _ rfl _ _ rfl rfl (by with_reducible repeat' first | assumption | exact ad_lt _ _ | exact u8_w32 _ | exact not_lt32 _ | exact mod_lt32 _ | refine xor_lt32 ?_ ?_ | refine or_lt32 ?_ ?_ | refine and_lt32 ?_ | refine rotr_lt _ _ ?_ | refine div_lt32 _ ?_) (by with_reducible repeat' first | assumption | exact ad_lt _ _ | exact u8_w32 _ | exact not_lt32 _ | exact mod_lt32 _ | refine xor_lt32 ?_ ?_ | refine or_lt32 ?_ ?_ | refine and_lt32 ?_ | refine rotr_lt _ _ ?_ | refine div_lt32 _ ?_)) ?_
      simp only [Act.put, List.setIfInBounds_toArray, List.set_cons_zero, List.set_cons_succ]
      refine rg_one rfl rfl ?_; intro K hK; go_simp
      with_reducible refine (A2 _).out.mono ?_
      rintro y _ ⟨rfl, rfl⟩
      refine hK _ _ (fun _ => hS3) ?_; clear hK
      refine rg_one rfl rfl ?_; intro K hK; go_simp
      with_reducible refine (A13 _).out.mono ?_
      rintro y _ ⟨rfl, rfl⟩
      refine hK _ _ (fun _ => hS3) ?_; clear hK
      refine rg_take rfl rfl hS3 (fun W hW => exec_wxor _ _ rfl _ _ rfl rfl (by with_reducible repeat' first | assumption | exact ad_lt _ _ | exact u8_w32 _ | exact not_lt32 _ | exact mod_lt32 _ | refine xor_lt32 ?_ ?_ | refine or_lt32 ?_ ?_ | refine and_lt32 ?_ | refine rotr_lt _ _ ?_ | refine div_lt32 _ ?_) (by with_reducible repeat' first | assumption | exact ad_lt _ _ | exact u8_w32 _ | exact not_lt32 _ | exact mod_lt32 _ | refine xor_lt32 ?_ ?_ | refine or_lt32 ?_ ?_ | refine and_lt32 ?_ | refine rotr_lt _ _ ?_ | refine div_lt32 _ ?_)) ?_
      simp only [Act.put, List.setIfInBounds_toArray, List.set_cons_zero, List.set_cons_succ]
      refine rg_one rfl rfl ?_; intro K hK; go_simp
      with_reducible refine (A22 _).out.mono ?_
      rintro y _ ⟨rfl, rfl⟩
      refine hK _ _ (fun _ => hS3) ?_; clear hK
      refine rg_take rfl rfl hS3 (fun W hW => exec_wxor _ _ rfl _ _ rfl rfl (by with_reducible repeat' first | assumption | exact ad_lt _ _ | exact u8_w32 _ | exact not_lt32 _ | exact mod_lt32 _ | refine xor_lt32 ?_ ?_ | refine or_lt32 ?_ ?_ | refine and_lt32 ?_ | refine rotr_lt _ _ ?_ | refine div_lt32 _ ?_) (by with_reducible repeat' first | assumption | exact ad_lt _ _ | exact u8_w32 _ | exact not_lt32 _ | exact mod_lt32 _ | refine xor_lt32 ?_ ?_ | refine or_lt32 ?_ ?_ | refine and_lt32 ?_ | refine rotr_lt _ _ ?_ | refine div_lt32 _ ?_)) ?_
      simp only [Act.put, List.setIfInBounds_toArray, List.set_cons_zero, List.set_cons_succ]
      refine rg_take rfl rfl hS3 (fun W hW => exec_wadd _ _ rfl _ _ rfl rfl) ?_
      simp only [Act.put, List.setIfInBounds_toArray, List.set_cons_zero, List.set_cons_succ]
      refine rg_take (v := ?v3_24) rfl rfl hS3 ?y3_24 ?_
      case y3_24 => intro W hW; (try subst hW); go_simp; try with_reducible rfl
      simp only [Act.put, List.setIfInBounds_toArray, List.set_cons_zero, List.set_cons_succ]
      refine rg_done (by kernel_rfl) ?_
      rw [show ad (rotr a 2 ^^^ rotr a 13 ^^^ rotr a 22) ((a &&& x1) ^^^ (a &&& x2) ^^^ (x1 &&& x2)) = tw from HTW.out.symm]
      have g7' := g7.drew.drew.drew
      go_wp2_with (first
        | ((with_reducible refine at_dst 81 ?_); refine wpList_yield rfl _ (exec_wadd _ _ rfl _ _ rfl rfl) ?_)
        | ((with_reducible refine at_dst 83 ?_); refine wpList_yield rfl _ (exec_ia0 ia96 _ _ rfl _ 1 _ rfl rfl (by decide)) ?_)
        | ((with_reducible refine at_dst 84 ?_); refine wpList_yield rfl _ (exec_wload w94 _ rfl _ _ _ _ _ rfl ((g7')) (rfl)) ?_)
        | ((with_reducible refine at_dst 85 ?_); refine wpList_yield rfl _ (exec_ia0 ia96 _ _ rfl _ 2 _ rfl rfl (by decide)) ?_)
        | ((with_reducible refine at_dst 86 ?_); refine wpList_yield rfl _ (exec_wload w94 _ rfl _ _ _ _ _ rfl ((g7')) (rfl)) ?_)
        | ((with_reducible refine at_dst 87 ?_); refine wpList_yield rfl _ (exec_ia0 ia96 _ _ rfl _ 3 _ rfl rfl (by decide)) ?_)
        | ((with_reducible refine at_dst 88 ?_); refine wpList_yield rfl _ (exec_wload w94 _ rfl _ _ _ _ _ rfl ((g7')) (rfl)) ?_)
        | ((with_reducible refine at_dst 90 ?_); refine wpList_yield rfl _ (exec_wadd _ _ rfl _ _ rfl rfl) ?_)
        | ((with_reducible refine at_dst 92 ?_); refine wpList_yield rfl _ (exec_ia0 ia96 _ _ rfl _ 5 _ rfl rfl (by decide)) ?_)
        | ((with_reducible refine at_dst 93 ?_); refine wpList_yield rfl _ (exec_wload w94 _ rfl _ _ _ _ _ rfl ((g7')) (rfl)) ?_)
        | ((with_reducible refine at_dst 94 ?_); refine wpList_yield rfl _ (exec_ia0 ia96 _ _ rfl _ 6 _ rfl rfl (by decide)) ?_)
        | ((with_reducible refine at_dst 95 ?_); refine wpList_yield rfl _ (exec_wload w94 _ rfl _ _ _ _ _ rfl ((g7')) (rfl)) ?_)
        | ((with_reducible refine at_dst 96 ?_); refine wpList_yield rfl _ (exec_build _ rfl (wvs [ad on tw, a, x1, x2, ad x3 on, e, x5, x6]).toArray (by kernel_rfl)) ?_)
        | ((with_reducible refine at_op (Op.store 96 (.tmp 7) (.tmp 96)) ?_); refine wpList_store_at at96.i rfl (.tmp 7) (.tmp 96) rfl n4 0 96 (wvs [a, x1, x2, x3, e, x5, x6, x7]) (wvs [ad on tw, a, x1, x2, ad x3 on, e, x5, x6]) rfl rfl g7' rfl (by rw [wvs_length]; exact Nat.le_refl 8) (wvs_one _) ?_; intro w1 hb1 hg1 hs1))
      rw [splice_all _ _ (by rw [wvs_length, wvs_length]; rfl)] at hb1
      go_roundw
      case rel =>
        exact ⟨t + 1, ad on tw, a, x1, x2, ad x3 on, e, x5, x6, by omega, by go_num, ⟨ad_lt _ _, l0, l1, l2, ad_lt _ _, l4, l5, l6⟩, HR', g1.drew.drew.drew.grown hg1 (by simp; omega), g3.drew.drew.drew.grown hg1 (by simp; omega), g5.drew.drew.drew.grown hg1 (by simp; omega), g6.drew.drew.drew.grown hg1 (by simp; omega), hb1,
          (Below.drew (Below.drew (Below.drew g0))).grown hg1 g0.size (by intro k hk; cases hk; omega)⟩
      case measure => simp only [intOf]; omega
    · obtain rfl : t = 64 := by omega
      have HV : Hid ([a, x1, x2, x3, e, x5, x6, x7] = R) := Lib.hid (by rw [← HEN.out]; exact HR.out)
      rw [HV.out] at g7
      clear HV HR HAT HEN l0 l1 l2 l3 l4 l5 l6 l7 ht htl g5 g6
      have HSET := Lib.hid (fun (j : Nat) (hj : j < 8) => zipT_set h R j HH.out HR2.out hj)
      have HGET := Lib.hid (fun (j : Nat) (hj : j < 8) => zipT_get h R j HH.out HR2.out hj)
      have HZL := Lib.hid (fun (j : Nat) (hj : j ≤ 8) => zipT_length h R j HH.out HR2.out hj)
      have HZE := Lib.hid (zipT_end h R HH.out)
      have HZ0 := Lib.hid (zipT_zero h R)
      go_wp2_with fail
      go_loopw [98] (fun i wr => ∃ j : Nat, j ≤ 8 ∧ i = .int .i64 (j : Int) ∧ Blk wr w.heap.size 96 (wvs (zipT h R j)) ∧ Blk wr (w.heap.size + 2) 96 (wvs (zw 8)) ∧ Blk wr n4 96 (wvs R) ∧ Below w.heap.size w wr) (fun i _ => 8 - (intOf i).toNat)
      case atStart => exact ⟨0, by omega, by go_num, by rw [HZ0.out]; exact g1, g3, g7, g0⟩
      case round =>
        clear g1 g3 g7 g0
        obtain ⟨j, hj, rfl, g1, g3, g7, g0⟩ := hrel
        by_cases hjl : j < 8
        · have hj0 : (j : Int) < 8 := by omega
          obtain ⟨p, hp⟩ : ∃ p, p = h.getD j 0 := ⟨_, rfl⟩
          obtain ⟨q, hq⟩ : ∃ q, q = R.getD j 0 := ⟨_, rfl⟩
          have ep : Hid ((zipT h R j)[j]? = some p) := Lib.hid (by rw [hp]; exact HGET.out j hjl)
          have eq : Hid (R[j]? = some q) := Lib.hid (by rw [hq]; exact getD_some _ _ (by rw [HR2.out]; exact hjl))
          have es : Hid ((zipT h R j).set j (ad p q) = zipT h R (j + 1)) := Lib.hid (by rw [hp, hq]; exact HSET.out j hjl)
          have el : Hid (j < (wvs (zipT h R j)).length) := Lib.hid (by rw [wvs_length, HZL.out j hj]; exact hjl)
          clear hp hq HSET HGET HZL HZE HZ0
          generalize zipT h R j = zj at *
          go_upto_region 14 with fail
          refine rg_begin (fun W => W = wr.drew) [8] [8] [0, 1, 2, 3, 4, 5, 6, 7, 8] 0 mixed (by kernel_rfl) (fun _ _ _ _ e hh => ⟨e.symm.trans hh.1, hh.2⟩) ?_
          simp only [pick, List.map_cons, List.map_nil, List.getD_cons_zero, List.getD_cons_succ]
          have hS4 : (fun W => W = wr.drew) _ := rfl
          refine rg_take (v := ?v4_0) rfl rfl hS4 ?y4_0 ?_
          case y4_0 => intro W hW; (try subst hW); go_simp; try with_reducible rfl
          simp only [Act.put, List.setIfInBounds_toArray, List.set_cons_zero, List.set_cons_succ]
          refine rg_take rfl rfl hS4 (fun W hW => exec_ia0 ia96 _ _ rfl _ _ _ rfl rfl (by omega)) ?_
          simp only [Act.put, List.setIfInBounds_toArray, List.set_cons_zero, List.set_cons_succ]
          refine rg_take rfl rfl hS4 (fun W hW => exec_wload w94 _ rfl _ _ _ _ _ rfl ((by subst hW; exact g1.drew)) (ep.out)) ?_
          simp only [Act.put, List.setIfInBounds_toArray, List.set_cons_zero, List.set_cons_succ]
          refine rg_take (v := ?v4_3) rfl rfl hS4 ?y4_3 ?_
          case y4_3 => intro W hW; (try subst hW); go_simp; try with_reducible rfl
          simp only [Act.put, List.setIfInBounds_toArray, List.set_cons_zero, List.set_cons_succ]
          refine rg_take rfl rfl hS4 (fun W hW => exec_ia0 ia96 _ _ rfl _ _ _ rfl rfl (by omega)) ?_
          simp only [Act.put, List.setIfInBounds_toArray, List.set_cons_zero, List.set_cons_succ]
          refine rg_take rfl rfl hS4 (fun W hW => exec_wload w94 _ rfl _ _ _ _ _ rfl ((by subst hW; exact g7.drew)) (eq.out)) ?_
          simp only [Act.put, List.setIfInBounds_toArray, List.set_cons_zero, List.set_cons_succ]
          refine rg_take rfl rfl hS4 (fun W hW => exec_wadd _ _ rfl _ _ rfl rfl) ?_
          simp only [Act.put, List.setIfInBounds_toArray, List.set_cons_zero, List.set_cons_succ]
          refine rg_take rfl rfl hS4 (fun W hW => exec_ia0 ia96 _ _ rfl _ _ _ rfl rfl (by omega)) ?_
          simp only [Act.put, List.setIfInBounds_toArray, List.set_cons_zero, List.set_cons_succ]
          refine rg_one rfl rfl ?_; intro K hK
          refine wp_store_one one94 _ _ rfl _ _ _ _ _ rfl rfl rfl g1.drew el.out ?_
          have g1' : Blk ((wr.drew).setCell ⟨w.heap.size, j, none⟩ (.int .u32 ((ad p q : Nat) : Int))) w.heap.size 96 (wvs (zipT h R (j + 1))) := by
            have := (Blk.drew g1).setw (i := j) (n := ad p q)
            rwa [es.out] at this
          have g3' := (Blk.drew g3).far (p := ⟨w.heap.size, j, none⟩) (by simp) (.int .u32 ((ad p q : Nat) : Int))
          have g7' := (Blk.drew g7).far (p := ⟨w.heap.size, j, none⟩) (by simp; omega) (.int .u32 ((ad p q : Nat) : Int))
          have g0' := (Below.drew g0).setCell (p := ⟨w.heap.size, j, none⟩) (by simp) (.int .u32 ((ad p q : Nat) : Int))
          refine hK _ _ (fun h => by cases h) ?_; clear hK
          refine rg_done (by kernel_rfl) ?_
          go_wp2_with fail
          go_roundw
          case rel => exact ⟨j + 1, by omega, by go_num, g1', g3', g7', g0'⟩
          case measure => simp only [intOf]; omega
        · obtain rfl : j = 8 := by omega
          rw [HZE.out, ← HR3.out] at g1
          have hrl : Hid (res.length = 8) := Lib.hid (by rw [HR3.out, List.length_zipWith, HH.out, HR2.out]; rfl)
          clear HZE HSET HGET HZL HZ0 hjl hj HR3
          go_wp2_with (first
            | ((with_reducible refine at_dst 110 ?_); refine wpList_yield rfl _ (exec_load_agg at96 (.tmp 2) rfl _ 96 (wvs res) rfl g1 (by rw [wvs_length]; exact hrl.out)) ?_)
            | ((with_reducible refine at_op (Op.store 96 (.tmp 4) (.tmp 110)) ?_); refine wpList_store_at at96.i rfl (.tmp 4) (.tmp 110) rfl (w.heap.size + 2) 0 96 (wvs (zw 8)) (wvs res) rfl rfl g3 (by rw [wvs_length]; exact hrl.out) (by rw [wvs_length, zw_length]; omega) (wvs_one _) ?_; intro w1 hb1 hg1 hs1))
          (try simp only [Exit.inBlock, Exit.then])
          rw [splice_all _ _ (by rw [wvs_length, wvs_length, zw_length]; exact hrl.out.symm)] at hb1
          refine bodyPost_ret (ret_cell rfl at96 _ _ (w.heap.size + 2) 96 (wvs res) rfl hb1 (by rw [wvs_length]; exact hrl.out)) rfl ?_
          exact ⟨rfl, g0.grown hg1 g0.size (by intro k hk; cases hk; omega)⟩
end Go.Proofs.Ytehbahobkgoapaa
namespace Go.Proofs.Ytehbahobkgoapaa
open Go Go.RowKit
set_option linter.unusedSimpArgs false
set_option linter.unusedVariables false
/-- The place of a byte of a slice; the byte. -/
theorem exec_sia {P : Program} {w : World} {a : Act} {o : Oper} {t e : TypeId} (hu : P.underlying t = some (.slice e)) (hz : (P.info? e).map (·.size) = some 1) (x y : Operand) (ho : o.op = .indexAddr t x y) (ad : Addr) (n c i : Nat) (k : IntKind) (hx : a.eval x = .slice (some ad) n c) (hy : a.eval y = .int k (i : Int)) (hi : i < n) :
    (execOp a.eval o).run P w = .ok (.value (.pointer (some (ad.add i)))) w := by
  have he : P.elem t = e := by simp [Program.elem, hu]
  have hs : (sizeOf e).run P w = .ok 1 w := by
    cases hq : P.info? e with
    | none => simp [hq] at hz
    | some j =>
      simp [hq] at hz
      simp [sizeOf, typeInfo, hq, hz]
  have hr := run_indexAt_slice (P := P) w t ad n c k (i : Int) (by rw [he]; exact hu)
  rw [he, if_pos (by omega), hs] at hr
  simp only [Result.andThen_ok, Int.toNat_natCast, Nat.mul_one] at hr
  unfold execOp
  simp only [ho, hx, hy, Sem.run_bind, hr, Result.andThen_ok, Sem.run_pure]
theorem exec_bload_rd {P : Program} {w : World} {a : Act} {o : Oper} {t : TypeId} (hu : ∃ d, P.underlying t = some d ∧ d.isRow = false) (x : Operand) (ho : o.op = .load t x) (ad : Addr) (i : Nat) (l : List UInt8) (n : UInt8) (hx : a.eval x = .pointer (some (ad.add i))) (hr : Rd w (some ad) (bvs l)) (e : l[i]? = some n) :
    (execOp a.eval o).run P w = .ok (.value (.int .u8 (n.toNat : Int))) w := by
  have hi : i < l.length := (List.getElem?_eq_some_iff.1 e).1
  obtain ⟨ad', h1, h2⟩ := hr.at_ (k := i) (by rw [bvs_length]; exact hi)
  cases h1
  have hc : w.cell? (ad.add i) = some (.int .u8 (n.toNat : Int)) := by
    rw [h2]
    have h3 : (bvs l)[i]? = some (bv n) := by rw [bvs_get, e]; rfl
    rw [List.getElem?_eq_getElem (by rw [bvs_length]; exact hi)] at h3
    rw [Option.some.inj h3]
    rfl
  obtain ⟨d, hu, hd⟩ := hu
  exact exec_load_one hu hd x ho _ _ hx hc
theorem sz5 : (Try.prog.info? 5).map (·.size) = some 1 := by kernel_rfl
theorem turned_is (x n : Nat) (k : Int) (w : World) (hx : x < 4294967296) (hn : n ≤ 32) (hk : k = (n : Int)) :
    Calls Try.prog 140 #[.int .u32 (x : Int), .int .i64 k] w fun e w' => e = .returned (.int .u32 ((rotr x n : Nat) : Int)) ∧ w' = w.drew := by
  subst hk
  exact turned_any x n w hx hn
set_option maxRecDepth 100000 in
set_option maxHeartbeats 4000000 in
theorem words_any (A : Option Addr) (n c : Nat) (b : List UInt8) (w : World) (hr : Rd w A (bvs b)) (hn : n = 64) (hl : b.length = 64) :
    Calls Try.prog 138 #[.slice A n c] w fun e w' => e = .returned (arrW (sched b)) ∧ Below w.heap.size w w' := by
  subst hn
  have HL := Lib.hid hl
  obtain ⟨pa, had⟩ : ∃ pa, A = some pa := by
    obtain ⟨pa, h, _⟩ := hr.at_ (k := 0) (by rw [bvs_length]; omega)
    exact ⟨pa, h⟩
  subst had
  have b1 : Blk (w.alloc (.cells (wvs (zw 64)).toArray 176)) w.heap.size 176 (wvs (zw 64)) := Blk.new _ _ _
  have b2 : Blk ((w.alloc (.cells (wvs (zw 64)).toArray 176)).alloc (.cells (wvs (zw 64)).toArray 176)) (w.heap.size + 1) 176 (wvs (zw 64)) := by
    have := Blk.new (w.alloc (.cells (wvs (zw 64)).toArray 176)) 176 (wvs (zw 64))
    rwa [show (w.alloc (.cells (wvs (zw 64)).toArray 176)).heap.size = w.heap.size + 1 by simp] at this
  have hall := And.intro (b1.alloc (.cells (wvs (zw 64)).toArray 176)) (And.intro b2
    (((Below.refl w.heap.size w).alloc (Nat.le_refl _) (.cells (wvs (zw 64)).toArray 176)).alloc (by simp) (.cells (wvs (zw 64)).toArray 176)))
  clear b1 b2 hl
  have HSE := Lib.hid (sched_eq b)
  have HS64 := Lib.hid (sched_length b)
  generalize sched b = sb at *
  unfold arrW
  go_enter Try.func138, Try.ntmps138
  go_wp2_with fail
  generalize hW : World.alloc (World.alloc w _) _ = w0
  have h3 : Blk w0 w.heap.size 176 (wvs (zw 64)) ∧ Blk w0 (w.heap.size + 1) 176 (wvs (zw 64)) ∧ Below w.heap.size w w0 := by rw [← hW]; exact hall
  clear hall hW
  obtain ⟨c2, c3, c4⟩ := h3
  go_loopw [4] (fun i wr => ∃ k : Nat, k ≤ 16 ∧ i = .int .i64 (k : Int) ∧ Blk wr w.heap.size 176 (wvs (zw 64)) ∧ Blk wr (w.heap.size + 1) 176 (wvs (first k b ++ zw (64 - k))) ∧ Below w.heap.size w wr) (fun i _ => 16 - (intOf i).toNat)
  case atStart => exact ⟨0, by omega, by go_num, c2, c3, c4⟩
  case round =>
    clear c2 c3 c4 w0
    obtain ⟨k, hk, rfl, d2, d3, d4⟩ := hrel
    by_cases hlt : k < 16
    · have hk0 : (k : Int) < 16 := by omega
      rw [fpw_zero b k (by omega)] at d3
      go_wp2_with fail
      go_loopw [5] (fun i wr => ∃ j : Nat, j ≤ 4 ∧ i = .int .i64 (j : Int) ∧ Blk wr w.heap.size 176 (wvs (zw 64)) ∧ Blk wr (w.heap.size + 1) 176 (wvs (fpw b k j)) ∧ Below w.heap.size w wr) (fun i _ => 4 - (intOf i).toNat)
      case atStart => exact ⟨0, by omega, by go_num, d2, d3, d4⟩
      case round =>
        clear d2 d3 d4
        obtain ⟨j, hj, rfl, d2, d3, d4⟩ := hrel
        by_cases hjl : j < 4
        · have hj0 : (j : Int) < 4 := by omega
          have e0 := Lib.hid (byte_get b (4 * k + j) (by rw [HL.out]; omega))
          have ep := Lib.hid (fpw_get b k j)
          have es := Lib.hid (fpw_set b k j)
          have el : Hid (k < (wvs (fpw b k j)).length) := Lib.hid (by rw [wvs_length, fpw_length b k j (by omega)]; omega)
          have eq := Lib.hid (pw_step b k j hjl)
          have hrw := hr.below d4
          generalize pw b k j = p at *
          generalize pw b k (j + 1) = p' at *
          generalize fpw b k j = fj at *
          generalize b.getD (4 * k + j) 0 = y at *
          go_upto_region 8 with fail
          refine rg_begin (fun W => W = wr.drew) [15] [15] [0, 1, 2, 3, 4, 5, 6, 7, 8, 9, 10, 11, 12, 13, 14, 15] 0 mixed (by kernel_rfl) (fun _ _ _ _ e hh => ⟨e.symm.trans hh.1, hh.2⟩) ?_
          simp only [pick, List.map_cons, List.map_nil, List.getD_cons_zero, List.getD_cons_succ]
          have hS : (fun W => W = wr.drew) _ := rfl
          refine rg_take (v := ?v1_0) rfl rfl hS ?y1_0 ?_
          case y1_0 => intro W hW; (try subst hW); go_simp; try with_reducible rfl
          simp only [Act.put, List.setIfInBounds_toArray, List.set_cons_zero, List.set_cons_succ]
          refine rg_take (v := ?v1_1) rfl rfl hS ?y1_1 ?_
          case y1_1 => intro W hW; (try subst hW); go_simp; try with_reducible rfl
          simp only [Act.put, List.setIfInBounds_toArray, List.set_cons_zero, List.set_cons_succ]
          refine rg_take rfl rfl hS (fun W hW => exec_ia0 ia176 _ _ rfl _ _ _ rfl rfl (by omega)) ?_
          simp only [Act.put, List.setIfInBounds_toArray, List.set_cons_zero, List.set_cons_succ]
          refine rg_take rfl rfl hS (fun W hW => exec_wload w94 _ rfl _ _ _ _ _ rfl ((by subst hW; exact d3.drew)) (ep.out)) ?_
          simp only [Act.put, List.setIfInBounds_toArray, List.set_cons_zero, List.set_cons_succ]
          refine rg_take rfl rfl hS (fun W hW => exec_wshl _ _ rfl _ 8 _ rfl rfl (by decide) 256 rfl) ?_
          simp only [Act.put, List.setIfInBounds_toArray, List.set_cons_zero, List.set_cons_succ]
          refine rg_take (v := ?v1_5) rfl rfl hS ?y1_5 ?_
          case y1_5 => intro W hW; (try subst hW); go_simp; try with_reducible rfl
          simp only [Act.put, List.setIfInBounds_toArray, List.set_cons_zero, List.set_cons_succ]
          refine rg_take (v := ?v1_6) rfl rfl hS ?y1_6 ?_
          case y1_6 => intro W hW; (try subst hW); go_simp; try with_reducible rfl
          simp only [Act.put, List.setIfInBounds_toArray, List.set_cons_zero, List.set_cons_succ]
          refine rg_take rfl rfl hS (fun W hW => exec_imul _ _ rfl _ _ (((4 * k : Nat) : Int)) rfl rfl (by omega) (by omega)) ?_
          simp only [Act.put, List.setIfInBounds_toArray, List.set_cons_zero, List.set_cons_succ]
          refine rg_take (v := ?v1_8) rfl rfl hS ?y1_8 ?_
          case y1_8 => intro W hW; (try subst hW); go_simp; try with_reducible rfl
          simp only [Act.put, List.setIfInBounds_toArray, List.set_cons_zero, List.set_cons_succ]
          refine rg_take rfl rfl hS (fun W hW => exec_iadd _ _ rfl _ _ (((4 * k + j : Nat) : Int)) rfl rfl (by omega) (by omega)) ?_
          simp only [Act.put, List.setIfInBounds_toArray, List.set_cons_zero, List.set_cons_succ]
          refine rg_take rfl rfl hS (fun W hW => exec_sia Try.underlying24 sz5 _ _ rfl pa 64 c (4 * k + j) _ rfl rfl (by omega)) ?_
          simp only [Act.put, List.setIfInBounds_toArray, List.set_cons_zero, List.set_cons_succ]
          refine rg_take rfl rfl hS (fun W hW => exec_bload_rd w5 _ rfl pa (4 * k + j) b y rfl (by subst hW; exact hrw.drew) e0.out) ?_
          simp only [Act.put, List.setIfInBounds_toArray, List.set_cons_zero, List.set_cons_succ]
          refine rg_take rfl rfl hS (fun W hW => exec_cast Try.underlying5 Try.underlying94 _ rfl _ rfl (by with_reducible repeat' first | assumption | exact ad_lt _ _ | exact u8_w32 _ | exact not_lt32 _ | exact mod_lt32 _ | refine xor_lt32 ?_ ?_ | refine or_lt32 ?_ ?_ | refine and_lt32 ?_ | refine rotr_lt _ _ ?_ | refine div_lt32 _ ?_)) ?_
          simp only [Act.put, List.setIfInBounds_toArray, List.set_cons_zero, List.set_cons_succ]
          refine rg_take rfl rfl hS (fun W hW => exec_wadd _ _ rfl _ _ rfl rfl) ?_
          simp only [Act.put, List.setIfInBounds_toArray, List.set_cons_zero, List.set_cons_succ]
          refine rg_take rfl rfl hS (fun W hW => exec_ia0 ia176 _ _ rfl _ _ _ rfl rfl (by omega)) ?_
          simp only [Act.put, List.setIfInBounds_toArray, List.set_cons_zero, List.set_cons_succ]
          refine rg_one rfl rfl ?_; intro K hK
          refine wp_store_one one94 _ _ rfl _ _ _ _ _ rfl rfl rfl d3.drew el.out ?_
          rw [eq.out]
          have d3' : Blk ((wr.drew).setCell ⟨w.heap.size + 1, k, none⟩ (.int .u32 ((p' : Nat) : Int))) (w.heap.size + 1) 176 (wvs (fpw b k (j + 1))) := by
            have := (Blk.drew d3).setw (i := k) (n := p')
            rwa [es.out] at this
          have d2' := (Blk.drew d2).far (p := ⟨w.heap.size + 1, k, none⟩) (by simp) (.int .u32 ((p' : Nat) : Int))
          have d4' := (Below.drew d4).setCell (p := ⟨w.heap.size + 1, k, none⟩) (by simp) (.int .u32 ((p' : Nat) : Int))
          refine hK _ _ (fun h => by cases h) ?_; clear hK
          refine rg_done (by kernel_rfl) ?_
          go_wp2_with fail
          go_roundw
          case rel => exact ⟨j + 1, by omega, by go_num, d2', d3', d4'⟩
          case measure => simp only [intOf]; omega
        · obtain rfl : j = 4 := by omega
          rw [fpw_end b k (by omega)] at d3
          go_wp2_with fail
          go_roundw
          case rel => exact ⟨k + 1, by omega, by go_num, d2, d3, d4⟩
          case measure => simp only [intOf]; omega
    · obtain rfl : k = 16 := by omega
      clear hlt hk
      go_wp2_with fail
      go_loopw [6] (fun i wr => ∃ (t : Nat) (cur : List Nat), 16 ≤ t ∧ t ≤ 64 ∧ i = .int .i64 (t : Int) ∧ Hid (cur.length = t) ∧ Hid (ext (64 - t) cur = sb) ∧ (∀ x ∈ cur, x < 4294967296) ∧
        Blk wr w.heap.size 176 (wvs (zw 64)) ∧ Blk wr (w.heap.size + 1) 176 (wvs (cur ++ zw (64 - t))) ∧ Below w.heap.size w wr) (fun i _ => 64 - (intOf i).toNat)
      case atStart => exact ⟨16, first 16 b, by omega, by omega, by go_num, Lib.hid (first_length _ _), Lib.hid HSE.out.symm, first_lt _ _, d2, d3, d4⟩
      case round =>
        clear d2 d3 d4
        obtain ⟨t, cur, h16, h64, rfl, HC, HE, hlt, d2, d3, d4⟩ := hrel
        by_cases htl : t < 64
        · have ht0 : (t : Int) < 64 := by omega
          obtain ⟨x, hx⟩ : ∃ x, x = cur.getD (t - 2) 0 := ⟨_, rfl⟩
          obtain ⟨y, hy⟩ : ∃ x, x = cur.getD (t - 15) 0 := ⟨_, rfl⟩
          obtain ⟨p, hp⟩ : ∃ x, x = cur.getD (t - 7) 0 := ⟨_, rfl⟩
          obtain ⟨q, hq⟩ : ∃ x, x = cur.getD (t - 16) 0 := ⟨_, rfl⟩
          have bx : x < 4294967296 := by rw [hx]; exact ext_get_lt _ _ hlt
          have by_ : y < 4294967296 := by rw [hy]; exact ext_get_lt _ _ hlt
          have ex : Hid ((cur ++ zw (64 - t))[t - 2]? = some x) := Lib.hid (by rw [hx]; exact ext_get _ _ _ (by rw [HC.out]; omega))
          have ey : Hid ((cur ++ zw (64 - t))[t - 15]? = some y) := Lib.hid (by rw [hy]; exact ext_get _ _ _ (by rw [HC.out]; omega))
          have ep : Hid ((cur ++ zw (64 - t))[t - 7]? = some p) := Lib.hid (by rw [hp]; exact ext_get _ _ _ (by rw [HC.out]; omega))
          have eq : Hid ((cur ++ zw (64 - t))[t - 16]? = some q) := Lib.hid (by rw [hq]; exact ext_get _ _ _ (by rw [HC.out]; omega))
          have HN : Hid (nw cur = ad (ad (ad (sg1 x) p) (sg0 y)) q) := Lib.hid (by unfold nw; rw [HC.out, hx, hy, hp, hq])
          have hlt' : ∀ z ∈ cur ++ [nw cur], z < 4294967296 := by
            intro z hz
            rcases List.mem_append.1 hz with hz | hz
            · exact hlt z hz
            · rw [List.mem_singleton.1 hz]; exact ad_lt _ _
          have HE' : Hid (ext (64 - (t + 1)) (cur ++ [nw cur]) = sb) := Lib.hid (by rw [← ext_succ, show 64 - (t + 1) + 1 = 64 - t by omega]; exact HE.out)
          have HC' : Hid ((cur ++ [nw cur]).length = t + 1) := Lib.hid (by rw [List.length_append, HC.out]; rfl)
          have HS : Hid ((cur ++ zw (64 - t)).set t (nw cur) = (cur ++ [nw cur]) ++ zw (64 - (t + 1))) := Lib.hid (ext_set _ _ _ HC.out htl)
          have HLen : Hid (t < (wvs (cur ++ zw (64 - t))).length) := Lib.hid (by rw [wvs_length, List.length_append, HC.out, zw_length]; omega)
          have X17 := fun u => Lib.hid (turned_is x 17 17 u bx (by decide) rfl)
          have X19 := fun u => Lib.hid (turned_is x 19 19 u bx (by decide) rfl)
          have Y7 := fun u => Lib.hid (turned_is y 7 7 u by_ (by decide) rfl)
          have Y18 := fun u => Lib.hid (turned_is y 18 18 u by_ (by decide) rfl)
          clear hx hy hp hq HE HC hlt
          generalize nw cur = nn at *
          generalize cur ++ zw (64 - t) = cc at *
          generalize cur ++ [nn] = cn at *
          go_upto_region 16 with (first
            | ((with_reducible refine at_dst 39 ?_); refine wpList_yield rfl _ (exec_isub _ _ rfl _ _ (((t - 15 : Nat) : Int)) rfl rfl (by omega) (by omega)) ?_)
            | ((with_reducible refine at_dst 40 ?_); refine wpList_yield rfl _ (exec_ia0 ia176 _ _ rfl _ _ _ rfl rfl (by omega)) ?_)
            | ((with_reducible refine at_dst 41 ?_); refine wpList_yield rfl _ (exec_wload w94 _ rfl _ _ _ _ _ rfl ((d3)) (ey.out)) ?_)
            | ((with_reducible refine at_dst 43 ?_); refine wpList_yield rfl _ (exec_isub _ _ rfl _ _ (((t - 2 : Nat) : Int)) rfl rfl (by omega) (by omega)) ?_)
            | ((with_reducible refine at_dst 44 ?_); refine wpList_yield rfl _ (exec_ia0 ia176 _ _ rfl _ _ _ rfl rfl (by omega)) ?_)
            | ((with_reducible refine at_dst 45 ?_); refine wpList_yield rfl _ (exec_wload w94 _ rfl _ _ _ _ _ rfl ((d3)) (ex.out)) ?_)
            | ((with_reducible refine at_dst 50 ?_); refine wpList_yield rfl _ (exec_wxor _ _ rfl _ _ rfl rfl (by with_reducible repeat' first | assumption | exact ad_lt _ _ | exact u8_w32 _ | exact not_lt32 _ | exact mod_lt32 _ | refine xor_lt32 ?_ ?_ | refine or_lt32 ?_ ?_ | refine and_lt32 ?_ | refine rotr_lt _ _ ?_ | refine div_lt32 _ ?_) (by with_reducible repeat' first | assumption | exact ad_lt _ _ | exact u8_w32 _ | exact not_lt32 _ | exact mod_lt32 _ | refine xor_lt32 ?_ ?_ | refine or_lt32 ?_ ?_ | refine and_lt32 ?_ | refine rotr_lt _ _ ?_ | refine div_lt32 _ ?_)) ?_)
            | ((with_reducible refine at_dst 52 ?_); refine wpList_yield rfl _ (exec_wshr _ _ rfl _ 3 _ rfl rfl (by decide) 8 rfl) ?_)
            | ((with_reducible refine at_dst 53 ?_); refine wpList_yield rfl _ (exec_wxor _ _ rfl _ _ rfl rfl (by with_reducible repeat' first | assumption | exact ad_lt _ _ | exact u8_w32 _ | exact not_lt32 _ | exact mod_lt32 _ | refine xor_lt32 ?_ ?_ | refine or_lt32 ?_ ?_ | refine and_lt32 ?_ | refine rotr_lt _ _ ?_ | refine div_lt32 _ ?_) (by with_reducible repeat' first | assumption | exact ad_lt _ _ | exact u8_w32 _ | exact not_lt32 _ | exact mod_lt32 _ | refine xor_lt32 ?_ ?_ | refine or_lt32 ?_ ?_ | refine and_lt32 ?_ | refine rotr_lt _ _ ?_ | refine div_lt32 _ ?_)) ?_)
            | ((with_reducible refine at_dst 58 ?_); refine wpList_yield rfl _ (exec_wxor _ _ rfl _ _ rfl rfl (by with_reducible repeat' first | assumption | exact ad_lt _ _ | exact u8_w32 _ | exact not_lt32 _ | exact mod_lt32 _ | refine xor_lt32 ?_ ?_ | refine or_lt32 ?_ ?_ | refine and_lt32 ?_ | refine rotr_lt _ _ ?_ | refine div_lt32 _ ?_) (by with_reducible repeat' first | assumption | exact ad_lt _ _ | exact u8_w32 _ | exact not_lt32 _ | exact mod_lt32 _ | refine xor_lt32 ?_ ?_ | refine or_lt32 ?_ ?_ | refine and_lt32 ?_ | refine rotr_lt _ _ ?_ | refine div_lt32 _ ?_)) ?_)
            | ((with_reducible refine at_dst 60 ?_); refine wpList_yield rfl _ (exec_wshr _ _ rfl _ 10 _ rfl rfl (by decide) 1024 rfl) ?_)
            | ((with_reducible refine at_dst 61 ?_); refine wpList_yield rfl _ (exec_wxor _ _ rfl _ _ rfl rfl (by with_reducible repeat' first | assumption | exact ad_lt _ _ | exact u8_w32 _ | exact not_lt32 _ | exact mod_lt32 _ | refine xor_lt32 ?_ ?_ | refine or_lt32 ?_ ?_ | refine and_lt32 ?_ | refine rotr_lt _ _ ?_ | refine div_lt32 _ ?_) (by with_reducible repeat' first | assumption | exact ad_lt _ _ | exact u8_w32 _ | exact not_lt32 _ | exact mod_lt32 _ | refine xor_lt32 ?_ ?_ | refine or_lt32 ?_ ?_ | refine and_lt32 ?_ | refine rotr_lt _ _ ?_ | refine div_lt32 _ ?_)) ?_)
            | (go_at_call 140; with_reducible refine (X17 _).out.mono ?_; rintro e _ ⟨rfl, rfl⟩)
            | (go_at_call 140; with_reducible refine (X19 _).out.mono ?_; rintro e _ ⟨rfl, rfl⟩)
            | (go_at_call 140; with_reducible refine (Y7 _).out.mono ?_; rintro e _ ⟨rfl, rfl⟩)
            | (go_at_call 140; with_reducible refine (Y18 _).out.mono ?_; rintro e _ ⟨rfl, rfl⟩))
          refine rg_begin (fun W => W = wr.drew.drew.drew.drew.drew) [15] [15] [0, 1, 2, 3, 4, 5, 6, 7, 8, 9, 10, 11, 12, 13, 14, 15] 0 mixed (by kernel_rfl) (fun _ _ _ _ e hh => ⟨e.symm.trans hh.1, hh.2⟩) ?_
          simp only [pick, List.map_cons, List.map_nil, List.getD_cons_zero, List.getD_cons_succ]
          have hS2 : (fun W => W = wr.drew.drew.drew.drew.drew) _ := rfl
          refine rg_take (v := ?v2_0) rfl rfl hS2 ?y2_0 ?_
          case y2_0 => intro W hW; (try subst hW); go_simp; try with_reducible rfl
          simp only [Act.put, List.setIfInBounds_toArray, List.set_cons_zero, List.set_cons_succ]
          refine rg_take (v := ?v2_1) rfl rfl hS2 ?y2_1 ?_
          case y2_1 => intro W hW; (try subst hW); go_simp; try with_reducible rfl
          simp only [Act.put, List.setIfInBounds_toArray, List.set_cons_zero, List.set_cons_succ]
          refine rg_take (v := ?v2_2) rfl rfl hS2 ?y2_2 ?_
          case y2_2 => intro W hW; (try subst hW); go_simp; try with_reducible rfl
          simp only [Act.put, List.setIfInBounds_toArray, List.set_cons_zero, List.set_cons_succ]
          refine rg_take rfl rfl hS2 (fun W hW => exec_isub _ _ rfl _ _ (((t - 7 : Nat) : Int)) rfl rfl (by omega) (by omega)) ?_
          simp only [Act.put, List.setIfInBounds_toArray, List.set_cons_zero, List.set_cons_succ]
          refine rg_take rfl rfl hS2 (fun W hW => exec_ia0 ia176 _ _ rfl _ _ _ rfl rfl (by omega)) ?_
          simp only [Act.put, List.setIfInBounds_toArray, List.set_cons_zero, List.set_cons_succ]
          refine rg_take rfl rfl hS2 (fun W hW => exec_wload w94 _ rfl _ _ _ _ _ rfl ((by subst hW; exact d3.drew.drew.drew.drew.drew)) (ep.out)) ?_
          simp only [Act.put, List.setIfInBounds_toArray, List.set_cons_zero, List.set_cons_succ]
          refine rg_take rfl rfl hS2 (fun W hW => exec_wadd _ _ rfl _ _ rfl rfl) ?_
          simp only [Act.put, List.setIfInBounds_toArray, List.set_cons_zero, List.set_cons_succ]
          refine rg_take (v := ?v2_7) rfl rfl hS2 ?y2_7 ?_
          case y2_7 => intro W hW; (try subst hW); go_simp; try with_reducible rfl
          simp only [Act.put, List.setIfInBounds_toArray, List.set_cons_zero, List.set_cons_succ]
          refine rg_take rfl rfl hS2 (fun W hW => exec_wadd _ _ rfl _ _ rfl rfl) ?_
          simp only [Act.put, List.setIfInBounds_toArray, List.set_cons_zero, List.set_cons_succ]
          refine rg_take (v := ?v2_9) rfl rfl hS2 ?y2_9 ?_
          case y2_9 => intro W hW; (try subst hW); go_simp; try with_reducible rfl
          simp only [Act.put, List.setIfInBounds_toArray, List.set_cons_zero, List.set_cons_succ]
          refine rg_take rfl rfl hS2 (fun W hW => exec_isub _ _ rfl _ _ (((t - 16 : Nat) : Int)) rfl rfl (by omega) (by omega)) ?_
          simp only [Act.put, List.setIfInBounds_toArray, List.set_cons_zero, List.set_cons_succ]
          refine rg_take rfl rfl hS2 (fun W hW => exec_ia0 ia176 _ _ rfl _ _ _ rfl rfl (by omega)) ?_
          simp only [Act.put, List.setIfInBounds_toArray, List.set_cons_zero, List.set_cons_succ]
          refine rg_take rfl rfl hS2 (fun W hW => exec_wload w94 _ rfl _ _ _ _ _ rfl ((by subst hW; exact d3.drew.drew.drew.drew.drew)) (eq.out)) ?_
          simp only [Act.put, List.setIfInBounds_toArray, List.set_cons_zero, List.set_cons_succ]
          refine rg_take rfl rfl hS2 (fun W hW => exec_wadd _ _ rfl _ _ rfl rfl) ?_
          simp only [Act.put, List.setIfInBounds_toArray, List.set_cons_zero, List.set_cons_succ]
          refine rg_take rfl rfl hS2 (fun W hW => exec_ia0 ia176 _ _ rfl _ _ _ rfl rfl (by omega)) ?_
          simp only [Act.put, List.setIfInBounds_toArray, List.set_cons_zero, List.set_cons_succ]
          refine rg_one rfl rfl ?_; intro K hK
          refine wp_store_one one94 _ _ rfl _ _ _ _ _ rfl rfl rfl d3.drew.drew.drew.drew.drew HLen.out ?_
          have d3' : Blk ((wr.drew.drew.drew.drew.drew).setCell ⟨w.heap.size + 1, t, none⟩ (.int .u32 ((nn : Nat) : Int))) (w.heap.size + 1) 176 (wvs (cn ++ zw (64 - (t + 1)))) := by
            have := (Blk.drew (Blk.drew (Blk.drew (Blk.drew (Blk.drew d3))))).setw (i := t) (n := nn)
            rwa [HS.out] at this
          have d2' := (Blk.drew (Blk.drew (Blk.drew (Blk.drew (Blk.drew d2))))).far (p := ⟨w.heap.size + 1, t, none⟩) (by simp) (.int .u32 ((nn : Nat) : Int))
          have d4' := (Below.drew (Below.drew (Below.drew (Below.drew (Below.drew d4))))).setCell (p := ⟨w.heap.size + 1, t, none⟩) (by simp) (.int .u32 ((nn : Nat) : Int))
          rw [show ad (ad (ad (rotr x 17 ^^^ rotr x 19 ^^^ x / 1024) p) (rotr y 7 ^^^ rotr y 18 ^^^ y / 8)) q = nn from HN.out.symm]
          refine hK _ _ (fun h => by cases h) ?_; clear hK
          refine rg_done (by kernel_rfl) ?_
          go_wp2_with fail
          go_roundw
          case rel => exact ⟨t + 1, by omega, by omega, by go_num, cn, HC', HE', hlt', d2', d3', d4'⟩
          case measure => simp only [intOf]; omega
        · obtain rfl : t = 64 := by omega
          have HE2 : Hid (cur = sb) := Lib.hid (by have h := HE.out; rw [Nat.sub_self, ext_zero] at h; exact h)
          have d3' : Blk wr (w.heap.size + 1) 176 (wvs sb) := by
            rw [Nat.sub_self, HE2.out, show zw 0 = [] from rfl, List.append_nil] at d3
            exact d3
          clear HE HE2 HC hlt d3 HSE
          go_wp2_with (first
            | ((with_reducible refine at_dst 77 ?_); refine wpList_yield rfl _ (exec_load_agg at176 (.tmp 3) rfl _ 176 (wvs sb) rfl d3' (by rw [wvs_length]; exact HS64.out)) ?_)
            | ((with_reducible refine at_op (Op.store 176 (.tmp 2) (.tmp 77)) ?_); refine wpList_store_at at176.i rfl (.tmp 2) (.tmp 77) rfl w.heap.size 0 176 (wvs (zw 64)) (wvs sb) rfl rfl d2 (by rw [wvs_length]; exact HS64.out) (by rw [wvs_length, zw_length]; omega) (wvs_one _) ?_; intro w1 hb1 hg1 hs1))
          (try simp only [Exit.inBlock, Exit.then])
          rw [splice_all _ _ (by rw [wvs_length, wvs_length, zw_length]; exact HS64.out.symm)] at hb1
          refine bodyPost_ret (ret_cell rfl at176 _ _ w.heap.size 176 (wvs sb) rfl hb1 (by rw [wvs_length]; exact HS64.out)) rfl ?_
          exact ⟨rfl, d4.grown hg1 d4.size (by intro k hk; cases hk; omega)⟩
end Go.Proofs.Ytehbahobkgoapaa
namespace Go.Proofs.Ytehbahobkgoapaa
open Go Go.RowKit
set_option linter.unusedSimpArgs false
set_option linter.unusedVariables false
set_option maxRecDepth 100000 in
set_option maxHeartbeats 4000000 in
theorem rstep_any (h : List Nat) (A : Option Addr) (n c : Nat) (b : List UInt8) (w : World) (hh : h.length = 8) (hlt : ∀ x ∈ h, x < 4294967296) (hr : Rd w A (bvs b)) (hn : n = 64) (hl : b.length = 64) :
    Calls Try.prog 82 #[arrW h, .slice A n c] w fun e w' => e = .returned (arrW (step h b)) ∧ Below w.heap.size w w' := by
  have HL := Lib.hid hl
  have HH := Lib.hid hh
  have b1 : Blk (w.alloc (.cells (wvs h).toArray 96)) w.heap.size 96 (wvs h) := Blk.new _ _ _
  have b3 : Blk ((w.alloc (.cells (wvs h).toArray 96)).alloc (.cells (wvs (zw 8)).toArray 96)) (w.heap.size + 1) 96 (wvs (zw 8)) := by
    have := Blk.new (w.alloc (.cells (wvs h).toArray 96)) 96 (wvs (zw 8))
    rwa [show (w.alloc (.cells (wvs h).toArray 96)).heap.size = w.heap.size + 1 by simp] at this
  have hall := And.intro (b1.alloc (.cells (wvs (zw 8)).toArray 96)) (And.intro b3
    (((Below.refl w.heap.size w).alloc (Nat.le_refl _) (.cells (wvs h).toArray 96)).alloc (by simp) (.cells (wvs (zw 8)).toArray 96)))
  have C1 := fun (u : World) (hb : Below w.heap.size w u) => Lib.hid (words_any A n c b u (hr.below hb) hn hl)
  have C2 := fun u => Lib.hid (rconstants_any u)
  have HP := Lib.hid (step_parts h b hh)
  have HWL := Lib.hid (sched_length b)
  have HKL := Lib.hid shaK_length
  have HAT := Lib.hid (rnds_at (sched b) (sched_length b))
  have HEN := Lib.hid (rnds_end (sched b) (sched_length b))
  have HG := Lib.hid hlt
  clear b1 b3 hl hh hlt hr hn
  generalize step h b = res at *
  generalize sched b = ws at *
  obtain ⟨ks, hks⟩ : ∃ ks, ks = shaK := ⟨_, rfl⟩
  rw [← hks] at HP HKL HAT HEN
  rw [← hks] at C2
  clear hks
  unfold arrW at *
  go_enter Try.func82, Try.ntmps82
  go_upto_region 1 with fail
  generalize hW : World.alloc (World.alloc w _) _ = w0
  have h3 : Blk w0 w.heap.size 96 (wvs h) ∧ Blk w0 (w.heap.size + 1) 96 (wvs (zw 8)) ∧ Below w.heap.size w w0 := by rw [← hW]; exact hall
  clear hall hW
  obtain ⟨c1, c3, c4⟩ := h3
  have A1 : ∀ u : World, Hid (Blk (u.alloc (.cells (wvs (zw 64)).toArray 176)) u.heap.size 176 (wvs (zw 64))) := fun u => Lib.hid (Blk.new _ _ _)
  have A2 : ∀ u : World, Hid (Below u.heap.size u (u.alloc (.cells (wvs (zw 64)).toArray 176))) := fun u => Lib.hid ((Below.refl _ _).alloc (Nat.le_refl _) _)
  go_upto_region 3 with (first
    | (go_at_call 138; with_reducible refine (C1 _ c4).out.mono ?_; rintro e w1 ⟨rfl, hw1⟩)
    | (go_at_call 139; with_reducible refine (C2 _).out.mono ?_; rintro e w3 ⟨rfl, hw3⟩)
    | ((with_reducible refine at_op (Op.store 176 (.tmp 5) (.tmp 17)) ?_); refine wpList_store_at at176.i rfl (.tmp 5) (.tmp 17) rfl w1.heap.size 0 176 (wvs (zw 64)) (wvs ws) rfl rfl (A1 w1).out (by rw [wvs_length]; exact HWL.out) (by rw [wvs_length, zw_length]; omega) (wvs_one _) ?_; intro w2 hb2 hg2 hs2)
    | ((with_reducible refine at_op (Op.store 176 (.tmp 6) (.tmp 18)) ?_); refine wpList_store_at at176.i rfl (.tmp 6) (.tmp 18) rfl w3.heap.size 0 176 (wvs (zw 64)) (wvs ks) rfl rfl (A1 w3).out (by rw [wvs_length]; exact HKL.out) (by rw [wvs_length, zw_length]; omega) (wvs_one _) ?_; intro w4 hb4 hg4 hs4))
  have hB1 : Below w0.heap.size w0 (w1.alloc (.cells (wvs (zw 64)).toArray 176)) := hw1.trans ((A2 w1).out.mono hw1.size)
  have hB2 : Below w0.heap.size w0 w2 := hB1.grown hg2 hB1.size (by intro k hk; cases hk; exact hw1.size)
  have hB3 : Below w0.heap.size w0 w3 := hB2.trans (hw3.mono hB2.size)
  have hB3' : Below w0.heap.size w0 (w3.alloc (.cells (wvs (zw 64)).toArray 176)) := hB3.trans ((A2 w3).out.mono hB3.size)
  have hB4 : Below w0.heap.size w0 w4 := hB3'.grown hg4 hB3'.size (by intro k hk; cases hk; exact hB3.size)
  have l1 := c1.lt
  have l3 := c3.lt
  have hs0 : w0.heap.size ≤ w1.heap.size := hw1.size
  have hs12 : w1.heap.size + 1 ≤ w3.heap.size := by have h1 := hw3.size; have h2 : w2.heap.size = w1.heap.size + 1 := by rw [hs2]; simp
                                                    omega
  have hs34 : w3.heap.size + 1 ≤ w4.heap.size := by rw [hs4]; simp
  have d1 := c1.below hB4 c1.lt
  have d3 := c3.below hB4 c3.lt
  have d5 : Blk w4 w1.heap.size 176 (wvs ws) := by
    rw [splice_all _ _ (by rw [wvs_length, wvs_length, zw_length, HWL.out])] at hb2
    exact ((hb2.below hw3 hb2.lt).alloc _).grown hg4 (by simp; omega)
  have d6 : Blk w4 w3.heap.size 176 (wvs ks) := by rwa [splice_all _ _ (by rw [wvs_length, wvs_length, zw_length, HKL.out])] at hb4
  have d0 : Below w.heap.size w w4 := c4.trans (hB4.mono c4.size)
  clear hB1 hB2 hB3 hB3' hB4 hb2 hb4 hg2 hg4 hs2 hs4 hw1 hw3 c1 c3 c4 C1 C2 A1 A2
  obtain ⟨a0, a1, a2, a3, a4, a5, a6, a7, R, hp1, hp2, hp3, hp4⟩ := HP.out
  clear HP
  have HR2 := Lib.hid hp2
  have HR3 := Lib.hid hp3
  have HR4 : Hid (rnds (ks.drop 0) (ws.drop 0) a0 a1 a2 a3 a4 a5 a6 a7 = R) := Lib.hid (by rw [List.drop_zero, List.drop_zero]; exact hp4)
  have HI := Lib.hid hp1
  clear hp1 hp2 hp3 hp4
  generalize w1.heap.size = n2 at *
  generalize w3.heap.size = n3 at *
  have b7 : Blk (w4.alloc (.cells (wvs (zw 8)).toArray 96)) w4.heap.size 96 (wvs (zw 8)) := Blk.new _ _ _
  go_upto_region 4 with (first
    | ((with_reducible refine at_dst 19 ?_); refine wpList_yield rfl _ (exec_load_agg at96 (.tmp 2) rfl _ 96 (wvs h) rfl d1 (by rw [wvs_length]; exact HH.out)) ?_)
    | ((with_reducible refine at_op (Op.store 96 (.tmp 7) (.tmp 19)) ?_); refine wpList_store_at at96.i rfl (.tmp 7) (.tmp 19) rfl w4.heap.size 0 96 (wvs (zw 8)) (wvs h) rfl rfl b7 (by rw [wvs_length]; exact HH.out) (by rw [wvs_length, zw_length]; omega) (wvs_one _) ?_; intro w5 hb5 hg5 hs5))
  rw [splice_all _ _ (by rw [wvs_length, wvs_length, zw_length, HH.out])] at hb5
  have e1 := (d1.alloc (.cells (wvs (zw 8)).toArray 96)).grown hg5 (by simp; omega)
  have e3 := (d3.alloc (.cells (wvs (zw 8)).toArray 96)).grown hg5 (by simp; omega)
  have e5 := (d5.alloc (.cells (wvs (zw 8)).toArray 96)).grown hg5 (by simp; omega)
  have e6 := (d6.alloc (.cells (wvs (zw 8)).toArray 96)).grown hg5 (by simp; omega)
  have e0 : Below w.heap.size w w5 := (d0.alloc d0.size (.cells (wvs (zw 8)).toArray 96)).grown hg5 (by have := d0.size; simp; omega) (by intro k hk; cases hk; exact d0.size)
  have hz : w.heap.size + 1 < n2 := by omega
  have hz2 : n2 < n3 := by omega
  have hz3 : n3 < w4.heap.size := by omega
  generalize w4.heap.size = n4 at *
  clear d1 d3 d5 d6 d0 b7 hg5 hs5 l1 l3 hs0 hs12 hs34 w0 w1 w2 w3 w4
  rw [HI.out] at hb5
  go_wp2_with fail
  go_loopw [8] (fun i wr => ∃ (t a b c d e f g k : Nat), t ≤ 64 ∧ i = .int .i64 (t : Int) ∧ (a < 4294967296 ∧ b < 4294967296 ∧ c < 4294967296 ∧ d < 4294967296 ∧ e < 4294967296 ∧ f < 4294967296 ∧ g < 4294967296 ∧ k < 4294967296) ∧
    Hid (rnds (ks.drop t) (ws.drop t) a b c d e f g k = R) ∧ Blk wr w.heap.size 96 (wvs h) ∧ Blk wr (w.heap.size + 1) 96 (wvs (zw 8)) ∧ Blk wr n2 176 (wvs ws) ∧ Blk wr n3 176 (wvs ks) ∧ Blk wr n4 96 (wvs [a, b, c, d, e, f, g, k]) ∧ Below w.heap.size w wr) (fun i _ => 64 - (intOf i).toNat)
  case atStart =>
    have hg8 := HG.out
    rw [HI.out] at hg8
    simp only [List.mem_cons, List.not_mem_nil, or_false, forall_eq_or_imp, forall_eq] at hg8
    exact ⟨0, a0, a1, a2, a3, a4, a5, a6, a7, by omega, by go_num, hg8, HR4, e1, e3, e5, e6, hb5, e0⟩
  case round =>
    clear e0 e1 e3 e5 e6 hb5 HR4 w5
    obtain ⟨t, a, x1, x2, x3, e, x5, x6, x7, ht, rfl, ⟨l0, l1, l2, l3, l4, l5, l6, l7⟩, HR, g1, g3, g5, g6, g7, g0⟩ := hrel
    by_cases htl : t < 64
    · have ht0 : (t : Int) < 64 := by omega
      obtain ⟨kt, hkt⟩ : ∃ kt, kt = ks.getD t 0 := ⟨_, rfl⟩
      obtain ⟨wt, hwt⟩ : ∃ wt, wt = ws.getD t 0 := ⟨_, rfl⟩
      have ek : Hid (ks[t]? = some kt) := Lib.hid (by rw [hkt]; exact getD_some _ _ (by rw [HKL.out]; exact htl))
      have ew : Hid (ws[t]? = some wt) := Lib.hid (by rw [hwt]; exact getD_some _ _ (by rw [HWL.out]; exact htl))
      obtain ⟨on, hon⟩ : ∃ on, on = one e x5 x6 x7 kt wt := ⟨_, rfl⟩
      obtain ⟨tw, htw⟩ : ∃ tw, tw = two a x1 x2 := ⟨_, rfl⟩
      have HR' : Hid (rnds (ks.drop (t + 1)) (ws.drop (t + 1)) (ad on tw) a x1 x2 (ad x3 on) e x5 x6 = R) := Lib.hid (by
        rw [hon, htw, hkt, hwt, ← HAT.out t htl]; exact HR.out)
      have HON := Lib.hid hon
      have HTW := Lib.hid htw
      clear hkt hwt hon htw HR HAT HEN
      have E6 := fun u => Lib.hid (turned_is e 6 6 u l4 (by decide) rfl)
      have E11 := fun u => Lib.hid (turned_is e 11 11 u l4 (by decide) rfl)
      have E25 := fun u => Lib.hid (turned_is e 25 25 u l4 (by decide) rfl)
      have A2 := fun u => Lib.hid (turned_is a 2 2 u l0 (by decide) rfl)
      have A13 := fun u => Lib.hid (turned_is a 13 13 u l0 (by decide) rfl)
      have A22 := fun u => Lib.hid (turned_is a 22 22 u l0 (by decide) rfl)
      go_upto_region 11 with (first
        | ((with_reducible refine at_dst 24 ?_); refine wpList_yield rfl _ (exec_ia0 ia96 _ _ rfl _ 4 _ rfl rfl (by decide)) ?_)
        | ((with_reducible refine at_dst 25 ?_); refine wpList_yield rfl _ (exec_wload w94 _ rfl _ _ _ _ _ rfl ((g7)) (rfl)) ?_)
        | ((with_reducible refine at_dst 26 ?_); refine wpList_yield rfl _ (exec_ia0 ia96 _ _ rfl _ 0 _ rfl rfl (by decide)) ?_)
        | ((with_reducible refine at_dst 27 ?_); refine wpList_yield rfl _ (exec_wload w94 _ rfl _ _ _ _ _ rfl ((g7)) (rfl)) ?_)
        | ((with_reducible refine at_dst 32 ?_); refine wpList_yield rfl _ (exec_wxor _ _ rfl _ _ rfl rfl (by with_reducible repeat' first | assumption | exact ad_lt _ _ | exact u8_w32 _ | exact not_lt32 _ | exact mod_lt32 _ | refine xor_lt32 ?_ ?_ | refine or_lt32 ?_ ?_ | refine and_lt32 ?_ | refine rotr_lt _ _ ?_ | refine div_lt32 _ ?_) (by with_reducible repeat' first | assumption | exact ad_lt _ _ | exact u8_w32 _ | exact not_lt32 _ | exact mod_lt32 _ | refine xor_lt32 ?_ ?_ | refine or_lt32 ?_ ?_ | refine and_lt32 ?_ | refine rotr_lt _ _ ?_ | refine div_lt32 _ ?_)) ?_)
        | ((with_reducible refine at_dst 35 ?_); refine wpList_yield rfl _ (exec_wxor _ _ rfl _ _ rfl rfl (by with_reducible repeat' first | assumption | exact ad_lt _ _ | exact u8_w32 _ | exact not_lt32 _ | exact mod_lt32 _ | refine xor_lt32 ?_ ?_ | refine or_lt32 ?_ ?_ | refine and_lt32 ?_ | refine rotr_lt _ _ ?_ | refine div_lt32 _ ?_) (by with_reducible repeat' first | assumption | exact ad_lt _ _ | exact u8_w32 _ | exact not_lt32 _ | exact mod_lt32 _ | refine xor_lt32 ?_ ?_ | refine or_lt32 ?_ ?_ | refine and_lt32 ?_ | refine rotr_lt _ _ ?_ | refine div_lt32 _ ?_)) ?_)
        | ((with_reducible refine at_dst 40 ?_); refine wpList_yield rfl _ (exec_wxor _ _ rfl _ _ rfl rfl (by with_reducible repeat' first | assumption | exact ad_lt _ _ | exact u8_w32 _ | exact not_lt32 _ | exact mod_lt32 _ | refine xor_lt32 ?_ ?_ | refine or_lt32 ?_ ?_ | refine and_lt32 ?_ | refine rotr_lt _ _ ?_ | refine div_lt32 _ ?_) (by with_reducible repeat' first | assumption | exact ad_lt _ _ | exact u8_w32 _ | exact not_lt32 _ | exact mod_lt32 _ | refine xor_lt32 ?_ ?_ | refine or_lt32 ?_ ?_ | refine and_lt32 ?_ | refine rotr_lt _ _ ?_ | refine div_lt32 _ ?_)) ?_)
        | ((with_reducible refine at_dst 43 ?_); refine wpList_yield rfl _ (exec_wxor _ _ rfl _ _ rfl rfl (by with_reducible repeat' first | assumption | exact ad_lt _ _ | exact u8_w32 _ | exact not_lt32 _ | exact mod_lt32 _ | refine xor_lt32 ?_ ?_ | refine or_lt32 ?_ ?_ | refine and_lt32 ?_ | refine rotr_lt _ _ ?_ | refine div_lt32 _ ?_) (by with_reducible repeat' first | assumption | exact ad_lt _ _ | exact u8_w32 _ | exact not_lt32 _ | exact mod_lt32 _ | refine xor_lt32 ?_ ?_ | refine or_lt32 ?_ ?_ | refine and_lt32 ?_ | refine rotr_lt _ _ ?_ | refine div_lt32 _ ?_)) ?_)
        | (go_at_call 140; with_reducible refine (E6 _).out.mono ?_; rintro y _ ⟨rfl, rfl⟩)
        | (go_at_call 140; with_reducible refine (E11 _).out.mono ?_; rintro y _ ⟨rfl, rfl⟩)
        | (go_at_call 140; with_reducible refine (E25 _).out.mono ?_; rintro y _ ⟨rfl, rfl⟩)
        | (go_at_call 140; with_reducible refine (A2 _).out.mono ?_; rintro y _ ⟨rfl, rfl⟩)
        | (go_at_call 140; with_reducible refine (A13 _).out.mono ?_; rintro y _ ⟨rfl, rfl⟩)
        | (go_at_call 140; with_reducible refine (A22 _).out.mono ?_; rintro y _ ⟨rfl, rfl⟩))
      refine rg_begin (fun W => W = wr.drew.drew.drew.drew.drew.drew.drew) [] [] [0, 1, 2, 3, 4, 5, 6, 7, 8, 9, 10, 11, 12, 13, 14, 15, 16, 17, 18, 19, 20, 21, 22, 23] 0 mixed (by kernel_rfl) (fun _ _ _ _ e hh => ⟨e.symm.trans hh.1, hh.2⟩) ?_
      simp only [pick, List.map_cons, List.map_nil, List.getD_cons_zero, List.getD_cons_succ]
      have hS : (fun W => W = wr.drew.drew.drew.drew.drew.drew.drew) _ := rfl
      refine rg_take rfl rfl hS (fun W hW => exec_ia0 ia96 _ _ rfl _ 7 _ rfl rfl (by decide)) ?_
      simp only [Act.put, List.setIfInBounds_toArray, List.set_cons_zero, List.set_cons_succ]
      refine rg_take rfl rfl hS (fun W hW => exec_wload w94 _ rfl _ _ _ _ _ rfl ((by subst hW; exact g7.drew.drew.drew.drew.drew.drew.drew)) (rfl)) ?_
      simp only [Act.put, List.setIfInBounds_toArray, List.set_cons_zero, List.set_cons_succ]
      refine rg_take (v := ?v1_2) rfl rfl hS ?y1_2 ?_
      case y1_2 => intro W hW; (try subst hW); go_simp; try with_reducible rfl
      simp only [Act.put, List.setIfInBounds_toArray, List.set_cons_zero, List.set_cons_succ]
      refine rg_take rfl rfl hS (fun W hW => exec_wadd _ _ rfl _ _ rfl rfl) ?_
      simp only [Act.put, List.setIfInBounds_toArray, List.set_cons_zero, List.set_cons_succ]
      refine rg_take (v := ?v1_4) rfl rfl hS ?y1_4 ?_
      case y1_4 => intro W hW; (try subst hW); go_simp; try with_reducible rfl
      simp only [Act.put, List.setIfInBounds_toArray, List.set_cons_zero, List.set_cons_succ]
      refine rg_take rfl rfl hS (fun W hW => exec_ia0 ia96 _ _ rfl _ 5 _ rfl rfl (by decide)) ?_
      simp only [Act.put, List.setIfInBounds_toArray, List.set_cons_zero, List.set_cons_succ]
      refine rg_take rfl rfl hS (fun W hW => exec_wload w94 _ rfl _ _ _ _ _ rfl ((by subst hW; exact g7.drew.drew.drew.drew.drew.drew.drew)) (rfl)) ?_
      simp only [Act.put, List.setIfInBounds_toArray, List.set_cons_zero, List.set_cons_succ]
      refine rg_take rfl rfl hS (fun W hW => exec_wand _ _ rfl _ _ rfl rfl (by with_reducible repeat' first | assumption | exact ad_lt _ _ | exact u8_w32 _ | exact not_lt32 _ | exact mod_lt32 _ | refine xor_lt32 ?_ ?_ | refine or_lt32 ?_ ?_ | refine and_lt32 ?_ | refine rotr_lt _ _ ?_ | refine div_lt32 _ ?_) (by with_reducible repeat' first | assumption | exact ad_lt _ _ | exact u8_w32 _ | exact not_lt32 _ | exact mod_lt32 _ | refine xor_lt32 ?_ ?_ | refine or_lt32 ?_ ?_ | refine and_lt32 ?_ | refine rotr_lt _ _ ?_ | refine div_lt32 _ ?_)) ?_
      simp only [Act.put, List.setIfInBounds_toArray, List.set_cons_zero, List.set_cons_succ]
      refine rg_take (v := ?v1_8) rfl rfl hS ?y1_8 ?_
      case y1_8 => intro W hW; (try subst hW); go_simp; try with_reducible rfl
      simp only [Act.put, List.setIfInBounds_toArray, List.set_cons_zero, List.set_cons_succ]
      refine rg_take rfl rfl hS (fun W hW => exec_wnot _ rfl _ rfl (by with_reducible repeat' first | assumption | exact ad_lt _ _ | exact u8_w32 _ | exact not_lt32 _ | exact mod_lt32 _ | refine xor_lt32 ?_ ?_ | refine or_lt32 ?_ ?_ | refine and_lt32 ?_ | refine rotr_lt _ _ ?_ | refine div_lt32 _ ?_)) ?_
      simp only [Act.put, List.setIfInBounds_toArray, List.set_cons_zero, List.set_cons_succ]
      refine rg_take rfl rfl hS (fun W hW => exec_ia0 ia96 _ _ rfl _ 6 _ rfl rfl (by decide)) ?_
      simp only [Act.put, List.setIfInBounds_toArray, List.set_cons_zero, List.set_cons_succ]
      refine rg_take rfl rfl hS (fun W hW => exec_wload w94 _ rfl _ _ _ _ _ rfl ((by subst hW; exact g7.drew.drew.drew.drew.drew.drew.drew)) (rfl)) ?_
      simp only [Act.put, List.setIfInBounds_toArray, List.set_cons_zero, List.set_cons_succ]
      refine rg_take rfl rfl hS (fun W hW => exec_wand _ _ rfl _ _ rfl rfl (by with_reducible repeat' first | assumption | exact ad_lt _ _ | exact u8_w32 _ | exact not_lt32 _ | exact mod_lt32 _ | refine xor_lt32 ?_ ?_ | refine or_lt32 ?_ ?_ | refine and_lt32 ?_ | refine rotr_lt _ _ ?_ | refine div_lt32 _ ?_) (by with_reducible repeat' first | assumption | exact ad_lt _ _ | exact u8_w32 _ | exact not_lt32 _ | exact mod_lt32 _ | refine xor_lt32 ?_ ?_ | refine or_lt32 ?_ ?_ | refine and_lt32 ?_ | refine rotr_lt _ _ ?_ | refine div_lt32 _ ?_)) ?_
      simp only [Act.put, List.setIfInBounds_toArray, List.set_cons_zero, List.set_cons_succ]
      refine rg_take rfl rfl hS (fun W hW => exec_wxor _ _ rfl _ _ rfl rfl (by with_reducible repeat' first | assumption | exact ad_lt _ _ | exact u8_w32 _ | exact not_lt32 _ | exact mod_lt32 _ | refine xor_lt32 ?_ ?_ | refine or_lt32 ?_ ?_ | refine and_lt32 ?_ | refine rotr_lt _ _ ?_ | refine div_lt32 _ ?_) (by with_reducible repeat' first | assumption | exact ad_lt _ _ | exact u8_w32 _ | exact not_lt32 _ | exact mod_lt32 _ | refine xor_lt32 ?_ ?_ | refine or_lt32 ?_ ?_ | refine and_lt32 ?_ | refine rotr_lt _ _ ?_ | refine div_lt32 _ ?_)) ?_
      simp only [Act.put, List.setIfInBounds_toArray, List.set_cons_zero, List.set_cons_succ]
      refine rg_take rfl rfl hS (fun W hW => exec_wadd _ _ rfl _ _ rfl rfl) ?_
      simp only [Act.put, List.setIfInBounds_toArray, List.set_cons_zero, List.set_cons_succ]
      refine rg_take (v := ?v1_15) rfl rfl hS ?y1_15 ?_
      case y1_15 => intro W hW; (try subst hW); go_simp; try with_reducible rfl
      simp only [Act.put, List.setIfInBounds_toArray, List.set_cons_zero, List.set_cons_succ]
      refine rg_take rfl rfl hS (fun W hW => exec_ia0 ia176 _ _ rfl _ _ _ rfl rfl (by omega)) ?_
      simp only [Act.put, List.setIfInBounds_toArray, List.set_cons_zero, List.set_cons_succ]
      refine rg_take rfl rfl hS (fun W hW => exec_wload w94 _ rfl _ _ _ _ _ rfl ((by subst hW; exact g6.drew.drew.drew.drew.drew.drew.drew)) (ek.out)) ?_
      simp only [Act.put, List.setIfInBounds_toArray, List.set_cons_zero, List.set_cons_succ]
      refine rg_take rfl rfl hS (fun W hW => exec_wadd _ _ rfl _ _ rfl rfl) ?_
      simp only [Act.put, List.setIfInBounds_toArray, List.set_cons_zero, List.set_cons_succ]
      refine rg_take (v := ?v1_19) rfl rfl hS ?y1_19 ?_
      case y1_19 => intro W hW; (try subst hW); go_simp; try with_reducible rfl
      simp only [Act.put, List.setIfInBounds_toArray, List.set_cons_zero, List.set_cons_succ]
      refine rg_take rfl rfl hS (fun W hW => exec_ia0 ia176 _ _ rfl _ _ _ rfl rfl (by omega)) ?_
      simp only [Act.put, List.setIfInBounds_toArray, List.set_cons_zero, List.set_cons_succ]
      refine rg_take rfl rfl hS (fun W hW => exec_wload w94 _ rfl _ _ _ _ _ rfl ((by subst hW; exact g5.drew.drew.drew.drew.drew.drew.drew)) (ew.out)) ?_
      simp only [Act.put, List.setIfInBounds_toArray, List.set_cons_zero, List.set_cons_succ]
      refine rg_take rfl rfl hS (fun W hW => exec_wadd _ _ rfl _ _ rfl rfl) ?_
      simp only [Act.put, List.setIfInBounds_toArray, List.set_cons_zero, List.set_cons_succ]
      refine rg_take (v := ?v1_23) rfl rfl hS ?y1_23 ?_
      case y1_23 => intro W hW; (try subst hW); go_simp; try with_reducible rfl
      simp only [Act.put, List.setIfInBounds_toArray, List.set_cons_zero, List.set_cons_succ]
      refine rg_done (by kernel_rfl) ?_
      rw [show ad (ad (ad (ad x7 (rotr e 6 ^^^ rotr e 11 ^^^ rotr e 25)) ((e &&& x5) ^^^ ((4294967295 - e) &&& x6))) kt) wt = on from HON.out.symm]
      have g7' := g7.drew.drew.drew.drew.drew.drew.drew
      go_upto_region 13 with (first
        | ((with_reducible refine at_dst 70 ?_); refine wpList_yield rfl _ (exec_wload w94 _ rfl _ _ _ _ _ rfl ((g7')) (rfl)) ?_)
        | ((with_reducible refine at_dst 71 ?_); refine wpList_yield rfl _ (exec_wand _ _ rfl _ _ rfl rfl (by with_reducible repeat' first | assumption | exact ad_lt _ _ | exact u8_w32 _ | exact not_lt32 _ | exact mod_lt32 _ | refine xor_lt32 ?_ ?_ | refine or_lt32 ?_ ?_ | refine and_lt32 ?_ | refine rotr_lt _ _ ?_ | refine div_lt32 _ ?_) (by with_reducible repeat' first | assumption | exact ad_lt _ _ | exact u8_w32 _ | exact not_lt32 _ | exact mod_lt32 _ | refine xor_lt32 ?_ ?_ | refine or_lt32 ?_ ?_ | refine and_lt32 ?_ | refine rotr_lt _ _ ?_ | refine div_lt32 _ ?_)) ?_)
        | ((with_reducible refine at_dst 74 ?_); refine wpList_yield rfl _ (exec_wload w94 _ rfl _ _ _ _ _ rfl ((g7')) (rfl)) ?_)
        | ((with_reducible refine at_dst 75 ?_); refine wpList_yield rfl _ (exec_wand _ _ rfl _ _ rfl rfl (by with_reducible repeat' first | assumption | exact ad_lt _ _ | exact u8_w32 _ | exact not_lt32 _ | exact mod_lt32 _ | refine xor_lt32 ?_ ?_ | refine or_lt32 ?_ ?_ | refine and_lt32 ?_ | refine rotr_lt _ _ ?_ | refine div_lt32 _ ?_) (by with_reducible repeat' first | assumption | exact ad_lt _ _ | exact u8_w32 _ | exact not_lt32 _ | exact mod_lt32 _ | refine xor_lt32 ?_ ?_ | refine or_lt32 ?_ ?_ | refine and_lt32 ?_ | refine rotr_lt _ _ ?_ | refine div_lt32 _ ?_)) ?_)
        | ((with_reducible refine at_dst 76 ?_); refine wpList_yield rfl _ (exec_wxor _ _ rfl _ _ rfl rfl (by with_reducible repeat' first | assumption | exact ad_lt _ _ | exact u8_w32 _ | exact not_lt32 _ | exact mod_lt32 _ | refine xor_lt32 ?_ ?_ | refine or_lt32 ?_ ?_ | refine and_lt32 ?_ | refine rotr_lt _ _ ?_ | refine div_lt32 _ ?_) (by with_reducible repeat' first | assumption | exact ad_lt _ _ | exact u8_w32 _ | exact not_lt32 _ | exact mod_lt32 _ | refine xor_lt32 ?_ ?_ | refine or_lt32 ?_ ?_ | refine and_lt32 ?_ | refine rotr_lt _ _ ?_ | refine div_lt32 _ ?_)) ?_)
        | ((with_reducible refine at_dst 78 ?_); refine wpList_yield rfl _ (exec_wload w94 _ rfl _ _ _ _ _ rfl ((g7')) (rfl)) ?_)
        | ((with_reducible refine at_dst 80 ?_); refine wpList_yield rfl _ (exec_wload w94 _ rfl _ _ _ _ _ rfl ((g7')) (rfl)) ?_)
        | ((with_reducible refine at_dst 81 ?_); refine wpList_yield rfl _ (exec_wand _ _ rfl _ _ rfl rfl (by with_reducible repeat' first | assumption | exact ad_lt _ _ | exact u8_w32 _ | exact not_lt32 _ | exact mod_lt32 _ | refine xor_lt32 ?_ ?_ | refine or_lt32 ?_ ?_ | refine and_lt32 ?_ | refine rotr_lt _ _ ?_ | refine div_lt32 _ ?_) (by with_reducible repeat' first | assumption | exact ad_lt _ _ | exact u8_w32 _ | exact not_lt32 _ | exact mod_lt32 _ | refine xor_lt32 ?_ ?_ | refine or_lt32 ?_ ?_ | refine and_lt32 ?_ | refine rotr_lt _ _ ?_ | refine div_lt32 _ ?_)) ?_)
        | ((with_reducible refine at_dst 82 ?_); refine wpList_yield rfl _ (exec_wxor _ _ rfl _ _ rfl rfl (by with_reducible repeat' first | assumption | exact ad_lt _ _ | exact u8_w32 _ | exact not_lt32 _ | exact mod_lt32 _ | refine xor_lt32 ?_ ?_ | refine or_lt32 ?_ ?_ | refine and_lt32 ?_ | refine rotr_lt _ _ ?_ | refine div_lt32 _ ?_) (by with_reducible repeat' first | assumption | exact ad_lt _ _ | exact u8_w32 _ | exact not_lt32 _ | exact mod_lt32 _ | refine xor_lt32 ?_ ?_ | refine or_lt32 ?_ ?_ | refine and_lt32 ?_ | refine rotr_lt _ _ ?_ | refine div_lt32 _ ?_)) ?_)
        | ((with_reducible refine at_dst 83 ?_); refine wpList_yield rfl _ (exec_wadd _ _ rfl _ _ rfl rfl) ?_)
        )
      rw [show ad (rotr a 2 ^^^ rotr a 13 ^^^ rotr a 22) ((a &&& x1) ^^^ (a &&& x2) ^^^ (x1 &&& x2)) = tw from HTW.out.symm]
      go_wp2_with (first
        | ((with_reducible refine at_dst 86 ?_); refine wpList_yield rfl _ (exec_wadd _ _ rfl _ _ rfl rfl) ?_)
        | ((with_reducible refine at_dst 88 ?_); refine wpList_yield rfl _ (exec_wload w94 _ rfl _ _ _ _ _ rfl ((g7')) (rfl)) ?_)
        | ((with_reducible refine at_dst 90 ?_); refine wpList_yield rfl _ (exec_wload w94 _ rfl _ _ _ _ _ rfl ((g7')) (rfl)) ?_)
        | ((with_reducible refine at_dst 92 ?_); refine wpList_yield rfl _ (exec_wload w94 _ rfl _ _ _ _ _ rfl ((g7')) (rfl)) ?_)
        | ((with_reducible refine at_dst 94 ?_); refine wpList_yield rfl _ (exec_wload w94 _ rfl _ _ _ _ _ rfl ((g7')) (rfl)) ?_)
        | ((with_reducible refine at_dst 96 ?_); refine wpList_yield rfl _ (exec_wadd _ _ rfl _ _ rfl rfl) ?_)
        | ((with_reducible refine at_dst 98 ?_); refine wpList_yield rfl _ (exec_wload w94 _ rfl _ _ _ _ _ rfl ((g7')) (rfl)) ?_)
        | ((with_reducible refine at_dst 100 ?_); refine wpList_yield rfl _ (exec_wload w94 _ rfl _ _ _ _ _ rfl ((g7')) (rfl)) ?_)
        | ((with_reducible refine at_dst 102 ?_); refine wpList_yield rfl _ (exec_wload w94 _ rfl _ _ _ _ _ rfl ((g7')) (rfl)) ?_)
        | ((with_reducible refine at_dst 103 ?_); refine wpList_yield rfl _ (exec_build _ rfl (wvs [ad on tw, a, x1, x2, ad x3 on, e, x5, x6]).toArray (by kernel_rfl)) ?_)
        | ((with_reducible refine at_op (Op.store 96 (.tmp 7) (.tmp 103)) ?_); refine wpList_store_at at96.i rfl (.tmp 7) (.tmp 103) rfl n4 0 96 (wvs [a, x1, x2, x3, e, x5, x6, x7]) (wvs [ad on tw, a, x1, x2, ad x3 on, e, x5, x6]) rfl rfl g7' rfl (by rw [wvs_length]; exact Nat.le_refl 8) (wvs_one _) ?_; intro w1 hb1 hg1 hs1))
      rw [splice_all _ _ (by rw [wvs_length, wvs_length]; rfl)] at hb1
      go_roundw
      case rel =>
        exact ⟨t + 1, ad on tw, a, x1, x2, ad x3 on, e, x5, x6, by omega, by go_num, ⟨ad_lt _ _, l0, l1, l2, ad_lt _ _, l4, l5, l6⟩, HR', g1.drew.drew.drew.drew.drew.drew.drew.grown hg1 (by simp; omega), g3.drew.drew.drew.drew.drew.drew.drew.grown hg1 (by simp; omega), g5.drew.drew.drew.drew.drew.drew.drew.grown hg1 (by simp; omega), g6.drew.drew.drew.drew.drew.drew.drew.grown hg1 (by simp; omega), hb1,
          (Below.drew (Below.drew (Below.drew (Below.drew (Below.drew (Below.drew (Below.drew g0))))))).grown hg1 g0.size (by intro k hk; cases hk; omega)⟩
      case measure => simp only [intOf]; omega
    · obtain rfl : t = 64 := by omega
      have HV : Hid ([a, x1, x2, x3, e, x5, x6, x7] = R) := Lib.hid (by rw [← HEN.out]; exact HR.out)
      rw [HV.out] at g7
      clear HV HR HAT HEN l0 l1 l2 l3 l4 l5 l6 l7 ht htl g5 g6
      have HSET := Lib.hid (fun (j : Nat) (hj : j < 8) => zipT_set h R j HH.out HR2.out hj)
      have HGET := Lib.hid (fun (j : Nat) (hj : j < 8) => zipT_get h R j HH.out HR2.out hj)
      have HZL := Lib.hid (fun (j : Nat) (hj : j ≤ 8) => zipT_length h R j HH.out HR2.out hj)
      have HZE := Lib.hid (zipT_end h R HH.out)
      have HZ0 := Lib.hid (zipT_zero h R)
      go_wp2_with fail
      go_loopw [15] (fun i wr => ∃ j : Nat, j ≤ 8 ∧ i = .int .i64 (j : Int) ∧ Blk wr w.heap.size 96 (wvs (zipT h R j)) ∧ Blk wr (w.heap.size + 1) 96 (wvs (zw 8)) ∧ Blk wr n4 96 (wvs R) ∧ Below w.heap.size w wr) (fun i _ => 8 - (intOf i).toNat)
      case atStart => exact ⟨0, by omega, by go_num, by rw [HZ0.out]; exact g1, g3, g7, g0⟩
      case round =>
        clear g1 g3 g7 g0
        obtain ⟨j, hj, rfl, g1, g3, g7, g0⟩ := hrel
        by_cases hjl : j < 8
        · have hj0 : (j : Int) < 8 := by omega
          obtain ⟨p, hp⟩ : ∃ p, p = h.getD j 0 := ⟨_, rfl⟩
          obtain ⟨q, hq⟩ : ∃ q, q = R.getD j 0 := ⟨_, rfl⟩
          have ep : Hid ((zipT h R j)[j]? = some p) := Lib.hid (by rw [hp]; exact HGET.out j hjl)
          have eq : Hid (R[j]? = some q) := Lib.hid (by rw [hq]; exact getD_some _ _ (by rw [HR2.out]; exact hjl))
          have es : Hid ((zipT h R j).set j (ad p q) = zipT h R (j + 1)) := Lib.hid (by rw [hp, hq]; exact HSET.out j hjl)
          have el : Hid (j < (wvs (zipT h R j)).length) := Lib.hid (by rw [wvs_length, HZL.out j hj]; exact hjl)
          clear hp hq HSET HGET HZL HZE HZ0
          generalize zipT h R j = zj at *
          go_upto_region 17 with fail
          refine rg_begin (fun W => W = wr.drew) [9] [9] [0, 1, 2, 3, 4, 5, 6, 7, 8, 9] 0 mixed (by kernel_rfl) (fun _ _ _ _ e hh => ⟨e.symm.trans hh.1, hh.2⟩) ?_
          simp only [pick, List.map_cons, List.map_nil, List.getD_cons_zero, List.getD_cons_succ]
          have hS4 : (fun W => W = wr.drew) _ := rfl
          refine rg_take (v := ?v2_0) rfl rfl hS4 ?y2_0 ?_
          case y2_0 => intro W hW; (try subst hW); go_simp; try with_reducible rfl
          simp only [Act.put, List.setIfInBounds_toArray, List.set_cons_zero, List.set_cons_succ]
          refine rg_take (v := ?v2_1) rfl rfl hS4 ?y2_1 ?_
          case y2_1 => intro W hW; (try subst hW); go_simp; try with_reducible rfl
          simp only [Act.put, List.setIfInBounds_toArray, List.set_cons_zero, List.set_cons_succ]
          refine rg_take rfl rfl hS4 (fun W hW => exec_ia0 ia96 _ _ rfl _ _ _ rfl rfl (by omega)) ?_
          simp only [Act.put, List.setIfInBounds_toArray, List.set_cons_zero, List.set_cons_succ]
          refine rg_take rfl rfl hS4 (fun W hW => exec_wload w94 _ rfl _ _ _ _ _ rfl ((by subst hW; exact g1.drew)) (ep.out)) ?_
          simp only [Act.put, List.setIfInBounds_toArray, List.set_cons_zero, List.set_cons_succ]
          refine rg_take (v := ?v2_4) rfl rfl hS4 ?y2_4 ?_
          case y2_4 => intro W hW; (try subst hW); go_simp; try with_reducible rfl
          simp only [Act.put, List.setIfInBounds_toArray, List.set_cons_zero, List.set_cons_succ]
          refine rg_take rfl rfl hS4 (fun W hW => exec_ia0 ia96 _ _ rfl _ _ _ rfl rfl (by omega)) ?_
          simp only [Act.put, List.setIfInBounds_toArray, List.set_cons_zero, List.set_cons_succ]
          refine rg_take rfl rfl hS4 (fun W hW => exec_wload w94 _ rfl _ _ _ _ _ rfl ((by subst hW; exact g7.drew)) (eq.out)) ?_
          simp only [Act.put, List.setIfInBounds_toArray, List.set_cons_zero, List.set_cons_succ]
          refine rg_take rfl rfl hS4 (fun W hW => exec_wadd _ _ rfl _ _ rfl rfl) ?_
          simp only [Act.put, List.setIfInBounds_toArray, List.set_cons_zero, List.set_cons_succ]
          refine rg_take rfl rfl hS4 (fun W hW => exec_ia0 ia96 _ _ rfl _ _ _ rfl rfl (by omega)) ?_
          simp only [Act.put, List.setIfInBounds_toArray, List.set_cons_zero, List.set_cons_succ]
          refine rg_one rfl rfl ?_; intro K hK
          refine wp_store_one one94 _ _ rfl _ _ _ _ _ rfl rfl rfl g1.drew el.out ?_
          have g1' : Blk ((wr.drew).setCell ⟨w.heap.size, j, none⟩ (.int .u32 ((ad p q : Nat) : Int))) w.heap.size 96 (wvs (zipT h R (j + 1))) := by
            have := (Blk.drew g1).setw (i := j) (n := ad p q)
            rwa [es.out] at this
          have g3' := (Blk.drew g3).far (p := ⟨w.heap.size, j, none⟩) (by simp) (.int .u32 ((ad p q : Nat) : Int))
          have g7' := (Blk.drew g7).far (p := ⟨w.heap.size, j, none⟩) (by simp; omega) (.int .u32 ((ad p q : Nat) : Int))
          have g0' := (Below.drew g0).setCell (p := ⟨w.heap.size, j, none⟩) (by simp) (.int .u32 ((ad p q : Nat) : Int))
          refine hK _ _ (fun h => by cases h) ?_; clear hK
          refine rg_done (by kernel_rfl) ?_
          go_wp2_with fail
          go_roundw
          case rel => exact ⟨j + 1, by omega, by go_num, g1', g3', g7', g0'⟩
          case measure => simp only [intOf]; omega
        · obtain rfl : j = 8 := by omega
          rw [HZE.out, ← HR3.out] at g1
          have hrl : Hid (res.length = 8) := Lib.hid (by rw [HR3.out, List.length_zipWith, HH.out, HR2.out]; rfl)
          clear HZE HSET HGET HZL HZ0 hjl hj HR3
          go_wp2_with (first
            | ((with_reducible refine at_dst 117 ?_); refine wpList_yield rfl _ (exec_load_agg at96 (.tmp 2) rfl _ 96 (wvs res) rfl g1 (by rw [wvs_length]; exact hrl.out)) ?_)
            | ((with_reducible refine at_op (Op.store 96 (.tmp 4) (.tmp 117)) ?_); refine wpList_store_at at96.i rfl (.tmp 4) (.tmp 117) rfl (w.heap.size + 1) 0 96 (wvs (zw 8)) (wvs res) rfl rfl g3 (by rw [wvs_length]; exact hrl.out) (by rw [wvs_length, zw_length]; omega) (wvs_one _) ?_; intro w1 hb1 hg1 hs1))
          (try simp only [Exit.inBlock, Exit.then])
          rw [splice_all _ _ (by rw [wvs_length, wvs_length, zw_length]; exact hrl.out.symm)] at hb1
          refine bodyPost_ret (ret_cell rfl at96 _ _ (w.heap.size + 1) 96 (wvs res) rfl hb1 (by rw [wvs_length]; exact hrl.out)) rfl ?_
          exact ⟨rfl, g0.grown hg1 g0.size (by intro k hk; cases hk; omega)⟩
end Go.Proofs.Ytehbahobkgoapaa
namespace Go.Proofs.Ytehbahobkgoapaa
open Go Go.RowKit
set_option linter.unusedSimpArgs false
set_option linter.unusedVariables false
theorem at22w : AT Try.prog 22 32 := ⟨⟨_, Try.underlying22, rfl⟩, by kernel_rfl⟩
theorem ia22 : IA Try.prog 22 32 := ⟨⟨_, Try.underlying22, by kernel_rfl⟩⟩
theorem one5 : (Try.prog.info? 5).map (·.size) = some 1 := by kernel_rfl
def zb (n : Nat) : List UInt8 := List.replicate n 0
theorem zb_length (n : Nat) : (zb n).length = n := by simp [zb]
def sliceLen : Value → Nat
  | .slice _ n _ => n
  | _ => 0
/-- One byte in a new block. -/
theorem one_new (u : World) (x : UInt8) (v : Value) (hv : bv x = v) : Rd (u.alloc (.cells #[v] 5)) (some ⟨u.heap.size, 0, none⟩) (bvs [x]) := by
  subst hv
  exact Rd.of_blk0 (es := []) (by simpa [bvs] using Blk.new u 5 [bv x])
/-- While the text is ended: the result's block, the text so far. -/
structure SumW (N : Nat) (w wr : World) (v : Value) (l : List UInt8) : Prop where
  bel : Below N w wr
  out : Blk wr N 22 (bvs (zb 32))
  own : OwnB wr (N + 1) 5 v l
theorem SumW.push {N : Nat} {w wr w2 : World} {v v2 : Value} {l l2 : List UInt8} (h : SumW N w wr v l) (o : Obj) (hg : (wr.alloc o).grownBy w2 v.ownBlock) (ho : OwnB w2 (N + 1) 5 v2 l2) : SumW N w w2 v2 l2 := by
  have h1 := h.out.lt
  exact ⟨(h.bel.alloc (Nat.le_of_lt h1) o).grown hg (by simp; omega) (fun g e => by have := (h.own.lt g e).1; omega), (h.out.alloc o).grown hg (fun e => by have := (h.own.lt _ e.symm).1; omega), ho⟩
theorem SumW.step {N N2 : Nat} {w wr w1 w2 : World} {v : Value} {l : List UInt8} (h : SumW N w wr v l) (hb : Below wr.heap.size wr w1) (hg : w1.grownBy w2 (some N2)) (hN : N < N2) (hv : v.ownBlock ≠ some N2) : SumW N w w2 v l := by
  have h1 := h.out.lt
  have h2 := hb.size
  refine ⟨(h.bel.trans (hb.mono (by omega))).grown hg (by omega) (fun g e => by cases e; omega), (h.out.below hb h1).grown hg (fun e => by cases e; omega), (h.own.below hb (Nat.le_refl _)).grown hg (fun k hk e => by cases hk; exact hv e)⟩
theorem pow_256 (k : Nat) : 2 ^ (8 * k) = 256 ^ k := by rw [Nat.pow_mul]
theorem wrap_ofNat (m : Nat) : IntKind.u8.wrap (m : Int) = ((UInt8.ofNat m).toNat : Int) := by
  rw [IntKind.wrap_u8, UInt8.toNat_ofNat']; omega
set_option maxRecDepth 100000 in
set_option maxHeartbeats 4000000 in
theorem rsum_any (A : Option Addr) (n c : Nat) (b : List UInt8) (w : World) (hr : Rd w A (bvs b)) (hl : b.length = n) (hn : n ≤ 140737488351232) :
    Calls Try.prog 80 #[.slice A n c] w fun e w' => e = .returned (arr8 (shaL b)) ∧ Below w.heap.size w w' := by
  have HL := Lib.hid hl
  have hz0 : padz b.length < 64 := padz_lt _
  have ho0 : OwnB ((w.alloc (.cells (bvs (zb 32)).toArray 22)).alloc (.cells #[] 5)) (w.heap.size + 1) 5 (.slice (some ⟨w.heap.size + 1, 0, none⟩) 0 0) [] :=
    .inr ⟨w.heap.size + 1, [], rfl, by omega, by simp, by simpa [bvs] using Blk.new (w.alloc (.cells (bvs (zb 32)).toArray 22)) 5 []⟩
  have hr0 : Rd ((w.alloc (.cells (bvs (zb 32)).toArray 22)).alloc (.cells #[] 5)) A (bvs b) := (hr.alloc _).alloc _
  have hb0 : Blk ((w.alloc (.cells (bvs (zb 32)).toArray 22)).alloc (.cells #[] 5)) w.heap.size 22 (bvs (zb 32)) := (Blk.new _ _ _).alloc _
  have hw0 : Below w.heap.size w ((w.alloc (.cells (bvs (zb 32)).toArray 22)).alloc (.cells #[] 5)) := ((Below.refl _ _).alloc (Nat.le_refl _) _).alloc (by simp) _
  have HP : Hid (padTo b (padz n) ++ be 8 (8 * n) = pad b) := Lib.hid (by rw [← hl]; exact padTo_end b)
  have HPL : Hid ((pad b).length = 64 * ((n + 9 + padz n) / 64)) := Lib.hid (by rw [← hl]; exact pad_length b)
  have HPA : Hid ((hOf (pad b)).flatMap (be 4) = shaL b) := Lib.hid rfl
  have HHL := Lib.hid (hOf_length (pad b))
  have HHO : Hid (blocks ((pad b).length / 64) shaH (pad b) = hOf (pad b)) := Lib.hid rfl
  rw [hl] at hz0
  clear hl
  generalize shaL b = res at *
  generalize pad b = P at *
  unfold arr8
  go_enter Try.func80, Try.ntmps80
  go_upto_region 1 with fail
  go_upto_region 3 with (first
    | ((with_reducible refine at_dst 12 ?_)
       refine wpList_append_bytes bt rfl (.tmp 10) (.tmp 11) rfl (w.heap.size + 1) _ [] rfl ho0 A n c b rfl HL.out hr0 (by simp; omega) (by simp) ?_
       intro v1 w1 ho1 hg1 _
       have h1 : SumW w.heap.size w w1 v1 b := ⟨hw0.grown hg1 (by simp; omega) (fun g e => by have := (ho0.lt g e).1; omega), hb0.grown hg1 (fun e => by have := (ho0.lt _ e.symm).1; omega), ho1⟩
       clear ho0 hr0 hb0 hw0 ho1 hg1)
    | ((with_reducible refine at_dst 15 ?_)
       refine wpList_append_bytes bt rfl (.tmp 13) (.tmp 14) rfl (w.heap.size + 1) v1 b rfl (h1.own.below ((Below.refl w1.heap.size w1).alloc (Nat.le_refl _) _) (Nat.le_refl _)) (some ⟨w1.heap.size, 0, none⟩) 1 1 [128] rfl rfl (one_new w1 128 _ rfl) (by rw [HL.out]; omega) (by have := h1.out.lt; simp; omega) ?_
       intro v2 w2 ho2 hg2 _
       have h2 : SumW w.heap.size w w2 v2 (padTo b 0) := h1.push _ hg2 ho2
       clear h1 ho2 hg2))
  go_loopw [3] (fun v wr => ∃ j : Nat, j ≤ padz n ∧ SumW w.heap.size w wr v (padTo b j)) (fun v _ => n + 1 + 64 - sliceLen v)
  case atStart => exact ⟨0, by omega, h2⟩
  case round =>
    clear h2
    obtain ⟨j, hj, h2⟩ := hrel
    obtain ⟨A1, c1, rfl, h3, h4, _⟩ := h2.own.rd
    obtain ⟨r, hr1⟩ : ∃ r, (n + 1 + j) % 64 = r := ⟨_, rfl⟩
    have hst := padTo_stop n j hj
    rw [hr1] at hst
    obtain ⟨L, hL⟩ : ∃ L, (padTo b j).length = L := ⟨_, rfl⟩
    rw [hL] at h2 h3 ⊢
    have HLn : Hid (L = n + 1 + j) := Lib.hid (by rw [← hL, padTo_length, HL.out])
    have hLb : L ≤ n + 65 := by rw [HLn.out]; omega
    have HR1 : Hid (L % 64 = r) := Lib.hid (by rw [HLn.out]; exact hr1)
    have HLL := Lib.hid hL
    clear hr1 hL
    by_cases hjl : j = padz n
    · obtain rfl : r = 56 := hst.2 hjl
      subst hjl
      clear hst hj
      obtain ⟨T, hT0⟩ : ∃ T, 8 * n = T := ⟨_, rfl⟩
      have hT := Lib.hid hT0
      have HT : Hid (padTo b (padz n) ++ be 8 T = P) := Lib.hid (by rw [← hT.out]; exact HP.out)
      have hTb : (n : Int) * 8 = (T : Int) := by omega
      have HTB := Lib.hid hTb
      clear hT0 hTb
      go_upto_region 6 with (first
        | ((with_reducible refine at_dst 18 ?_); refine wpList_yield rfl _ (exec_irem _ _ rfl L 64 56 rfl rfl (by decide) HR1.out) ?_)
        | ((with_reducible refine at_dst 25 ?_); refine wpList_yield rfl _ (exec_conv Try.underlying3 Try.underlying175 _ rfl .i64 (n : Int) (n : Int) rfl rfl (by rw [IntKind.wrap_u64]; omega)) ?_)
        | ((with_reducible refine at_dst 26 ?_); refine wpList_yield rfl _ (exec_umul _ _ rfl (n : Int) 8 (T : Int) rfl rfl HTB.out (by have := HTB.out; omega)) ?_)
        )
      clear HP HR1 HLL
      go_wp2_with fail
      go_loopw [3, 5] (fun v i wr => ∃ (j : Nat) (l : List UInt8), j ≤ 8 ∧ i = .int .i64 ((j : Int) - 1) ∧ Hid (l ++ be j T = P) ∧ SumW w.heap.size w wr v l) (fun _ i _ => (intOf i + 1).toNat)
      case atStart => exact ⟨8, _, by omega, by go_num, HT, h2⟩
      case round =>
        clear h2 h3 h4 HT
        obtain ⟨j, l, hj, hi, hlp, h2⟩ := hrel
        have hll : l.length + j = 64 * ((n + 9 + padz n) / 64) := by
          have := congrArg List.length hlp.out
          rw [List.length_append, be_length, HPL.out] at this
          exact this
        obtain ⟨K, hK⟩ : ∃ K, (n + 9 + padz n) / 64 = K := ⟨_, rfl⟩
        rw [hK] at hll
        have hKn : 64 * K ≤ n + 9 + 64 := by omega
        have HPK : Hid (P.length = 64 * K) := Lib.hid (by rw [← hK]; exact HPL.out)
        clear hK HPL
        cases j with
        | succ k =>
          obtain rfl := hi.trans (show Value.int .i64 (((k + 1 : Nat) : Int) - 1) = .int .i64 (k : Int) by congr 1; omega)
          have hk0 : (0 : Int) ≤ (k : Int) := by omega
          obtain ⟨y, hy⟩ : ∃ y, y = UInt8.ofNat (T / 256 ^ k) := ⟨_, rfl⟩
          have HS : Hid ((l ++ [y]) ++ be k T = P) := Lib.hid (by rw [hy, be_snoc T k (by omega)]; exact hlp.out)
          have HW : Hid (IntKind.u8.wrap ((T / 256 ^ k : Nat) : Int) = (y.toNat : Int)) := Lib.hid (by rw [hy]; exact wrap_ofNat _)
          have HPW := Lib.hid (pow_256 k)
          clear hy hlp hi
          generalize 256 ^ k = pk at *
          have hlb : l.length + 1 ≤ 140737488355328 := by omega
          go_wp2_with (first
            | ((with_reducible refine at_dst 34 ?_); refine wpList_yield rfl _ (exec_imul _ _ rfl _ _ (((8 * k : Nat) : Int)) rfl rfl (by omega) (by omega)) ?_)
            | ((with_reducible refine at_dst 35 ?_); refine wpList_yield rfl _ (exec_ushr _ _ rfl T (8 * k) _ rfl rfl (by omega) pk HPW.out) ?_)
            | ((with_reducible refine at_dst 36 ?_); refine wpList_yield rfl _ (exec_conv Try.underlying175 Try.underlying5 _ rfl .u64 _ (y.toNat : Int) rfl rfl HW.out) ?_)
            | ((with_reducible refine at_dst 38 ?_)
               refine wpList_append_bytes bt rfl (.tmp 31) (.tmp 37) rfl (w.heap.size + 1) _ l rfl (h2.own.below ((Below.refl wr.heap.size wr).alloc (Nat.le_refl _) _) (Nat.le_refl _)) (some ⟨wr.heap.size, 0, none⟩) 1 1 [y] rfl rfl (one_new wr y _ rfl) hlb (by have := h2.out.lt; simp; omega) ?_
               intro v3 w3 ho3 hg3 _
               have h3 : SumW w.heap.size w w3 v3 (l ++ [y]) := h2.push _ hg3 ho3
               clear h2 ho3 hg3))
          go_roundw
          case rel => exact ⟨k, l ++ [y], by omega, by go_num, HS, h3⟩
          case measure => simp only [intOf]; omega
        | zero =>
          obtain rfl := hi.trans (show Value.int .i64 (((0 : Nat) : Int) - 1) = .int .i64 (-1) by rfl)
          obtain rfl : l = P := by have h := hlp.out; rwa [be, List.append_nil] at h
          clear hi hlp hj
          obtain ⟨A2, c2, rfl, h5, h6, h7⟩ := h2.own.rd
          rw [HPK.out] at h2 h5 ⊢
          obtain ⟨L2, hL2⟩ : ∃ L2, L2 = 64 * K := ⟨_, rfl⟩
          rw [← hL2] at h2 h5 ⊢
          have HL2 : Hid (L2 = 64 * K) := Lib.hid hL2
          have hLb2 : L2 ≤ n + 9 + 64 := by omega
          clear hL2 hll hKn
          have hN1 := h2.out.lt
          have bH0 : Blk (wr.alloc (.cells (wvs (zw 8)).toArray 96)) wr.heap.size 96 (wvs (zw 8)) := Blk.new _ _ _
          go_upto_region 11 with (first
            | ((with_reducible refine at_dst 39 ?_); refine wpList_yield rfl _ (exec_build _ rfl (wvs shaH).toArray (by kernel_rfl)) ?_)
            | ((with_reducible refine at_op (Op.store 96 (.tmp 6) (.tmp 39)) ?_); refine wpList_store_at at96.i rfl (.tmp 6) (.tmp 39) rfl wr.heap.size 0 96 (wvs (zw 8)) (wvs shaH) rfl rfl bH0 (by rw [wvs_length]; rfl) (by rw [wvs_length]; decide) (wvs_one _) ?_; intro w3 hb3 hg3 hs3))
          rw [splice_all _ _ (by rw [wvs_length, wvs_length]; rfl)] at hb3
          have hv : (Value.slice A2 L2 c2).ownBlock ≠ some wr.heap.size := fun e => by have := (h2.own.lt _ e).2; omega
          have h3 : SumW w.heap.size w w3 (.slice A2 L2 c2) l := h2.step ((Below.refl _ _).alloc (Nat.le_refl _) _) hg3 hN1 hv
          clear h2 h7 hg3 hs3 bH0
          generalize wr.heap.size = G at *
          have HLE : Hid (l.length = L2) := Lib.hid (by rw [HPK.out, HL2.out])
          clear HPK
          go_wp2_with fail
          go_loopw [7] (fun i wr => ∃ (p k : Nat), Hid (p = 64 * k) ∧ p ≤ L2 ∧ i = .int .i64 (p : Int) ∧ Blk wr G 96 (wvs (blocks k shaH l)) ∧ SumW w.heap.size w wr (.slice A2 L2 c2) l) (fun i _ => L2 - (intOf i).toNat)
          case atStart => exact ⟨0, 0, rfl, by omega, by go_num, hb3, h3⟩
          case round =>
            clear h3 hb3
            obtain ⟨p, k, HPk, hpL, rfl, bH, h3⟩ := hrel
            by_cases hlt : p < L2
            · have hp64 : p + 64 ≤ L2 := by have e1 := HPk.out; have e2 := HL2.out; omega
              have hpz : (p : Int) < (L2 : Int) := by omega
              obtain ⟨A3, c3, e3, h7, h8, h9⟩ := h3.own.rd
              injection e3 with e4 e5 e6
              subst e4; subst e6
              clear e5 h7 h8
              obtain ⟨ch, hch⟩ : ∃ ch, ch = (l.drop p).take 64 := ⟨_, rfl⟩
              have hcl : ch.length = 64 := by rw [hch, List.length_take, List.length_drop, HLE.out]; omega
              have hrd : Rd wr (cutA A2 c2 p 1) (bvs ch) := by
                have h1 := h9.cutA (c := c2) (lo := p) (z := 1) (by rw [bvs_length, HLE.out]; omega) 64
                have e : ((bvs l).drop (p * 1)).take 64 = bvs ch := by
                  rw [Nat.mul_one, hch]
                  unfold bvs
                  rw [← List.map_drop, ← List.map_take]
                rwa [e] at h1
              have HS : Hid (blocks (k + 1) shaH l = step (blocks k shaH l) ch) := Lib.hid (by rw [blocks_one, hch, HPk.out])
              have HPk' : Hid (p + 64 = 64 * (k + 1)) := Lib.hid (by rw [HPk.out]; omega)
              have hkl := blocks_length k shaH l rfl
              have hkt := blocks_lt k shaH l shaH_lt
              clear hch h9 HPk
              obtain ⟨Hk1, hHk1⟩ : ∃ x, x = blocks (k + 1) shaH l := ⟨_, rfl⟩
              rw [← hHk1] at HS
              have HKE := Lib.hid hHk1
              clear hHk1
              generalize blocks k shaH l = Hk at bH HS hkl hkt
              have HKL := Lib.hid hkl
              have C : ∀ W, Below wr.heap.size wr W → Hid (Calls Try.prog 82 #[.agg (wvs Hk).toArray, .slice (cutA A2 c2 p 1) 64 (c2 - p)] W fun e w' => e = .returned (.agg (wvs (step Hk ch)).toArray) ∧ Below W.heap.size W w') :=
                fun W hb => Lib.hid (rstep_any Hk _ _ _ ch W hkl hkt (hrd.below hb) rfl hcl)
              have HSL := Lib.hid (step_length Hk ch)
              clear hkl hkt hrd hcl
              rw [← HS.out] at C HSL
              clear HS
              go_upto_region 14 with fail
              refine rg_begin (Below wr.heap.size wr) [7] [6, 7] [0, 1, 2, 3, 4, 5, 6, 7] 0 mixed (by kernel_rfl) (fun _ _ _ _ e hh => ⟨e.symm.trans hh.1, hh.2⟩) ?_
              simp only [pick, List.map_cons, List.map_nil, List.getD_cons_zero, List.getD_cons_succ]
              have hS : (Below wr.heap.size wr) _ := (Below.refl _ _).drew
              refine rg_take rfl rfl hS (fun W hW => exec_load_agg at96 (.tmp 6) rfl G 96 (wvs Hk) rfl (bH.below hW bH.lt) (by rw [wvs_length]; exact HKL.out)) ?_
              simp only [Act.put, List.setIfInBounds_toArray, List.set_cons_zero, List.set_cons_succ]
              refine rg_take (v := ?v1_1) rfl rfl hS ?y1_1 ?_
              case y1_1 => intro W hW; (try subst hW); go_simp; try with_reducible rfl
              simp only [Act.put, List.setIfInBounds_toArray, List.set_cons_zero, List.set_cons_succ]
              refine rg_take (v := ?v1_2) rfl rfl hS ?y1_2 ?_
              case y1_2 => intro W hW; (try subst hW); go_simp; try with_reducible rfl
              simp only [Act.put, List.setIfInBounds_toArray, List.set_cons_zero, List.set_cons_succ]
              refine rg_take (v := ?v1_3) rfl rfl hS ?y1_3 ?_
              case y1_3 => intro W hW; (try subst hW); go_simp; try with_reducible rfl
              simp only [Act.put, List.setIfInBounds_toArray, List.set_cons_zero, List.set_cons_succ]
              refine rg_take rfl rfl hS (fun W hW => exec_iadd _ _ rfl _ _ (((p + 64 : Nat) : Int)) rfl rfl (by omega) (by omega)) ?_
              simp only [Act.put, List.setIfInBounds_toArray, List.set_cons_zero, List.set_cons_succ]
              refine rg_take rfl rfl hS (fun W hW => exec_slice_mid st24 _ _ _ rfl A2 L2 c2 p (p + 64) .i64 .i64 rfl rfl rfl (by omega) (by omega)) ?_
              simp only [Act.put, List.setIfInBounds_toArray, List.set_cons_zero, List.set_cons_succ]
              refine rg_one rfl rfl ?_; intro K hK; go_simp
              with_reducible refine (C _ hS).out.mono ?_
              rintro e w4 ⟨rfl, hw4⟩
              have hS1 : Below wr.heap.size wr w4 := Below.trans hS (hw4.mono (Below.size hS))
              refine hK _ _ (fun _ => hS1) ?_; clear hK
              refine rg_one rfl rfl ?_; intro K hK
              refine wp_store_at at96.i (.tmp 6) (.tmp 52) rfl G 0 96 (wvs Hk) (wvs Hk1) rfl rfl (bH.below hS1 bH.lt) (by rw [wvs_length]; exact HSL.out) (by rw [wvs_length, HKL.out]; exact Nat.le_refl 8) (wvs_one _) ?_
              intro w5 hb5 hg5 hs5
              refine hK _ _ (fun h => by cases h) ?_; clear hK
              refine rg_done (by kernel_rfl) ?_
              rw [splice_all _ _ (by rw [wvs_length, wvs_length, HKL.out, HSL.out])] at hb5
              have h4 := h3.step hS1 hg5 hN1 hv
              clear h3 hS1 hg5 hs5 hw4 bH
              go_wp2_with fail
              go_roundw
              case rel => exact ⟨p + 64, k + 1, HPk', by omega, by go_num, by rw [← HKE.out]; exact hb5, h4⟩
              case measure => simp only [intOf]; omega
            · obtain rfl : p = L2 := by omega
              have HB : Hid (blocks k shaH l = hOf l) := Lib.hid (by rw [← HHO.out, HLE.out, HPk.out, Nat.mul_div_cancel_left k (by decide)])
              rw [HB.out] at bH
              obtain ⟨e1, e2, ho3⟩ := h3
              clear HB HHO hlt hpL HPk HLE HL2 h5 h6 hv ho3
              generalize hOf l = H at *
              have bO : Blk (wr.alloc (.cells (bvs (zb 32)).toArray 22)) wr.heap.size 22 (bvs (outB H 0)) := by rw [outB_zero]; exact Blk.new _ _ _
              have bH1 := bH.alloc (.cells (bvs (zb 32)).toArray 22)
              have bN := e2.alloc (.cells (bvs (zb 32)).toArray 22)
              have bW := e1.alloc (Nat.le_of_lt e2.lt) (.cells (bvs (zb 32)).toArray 22)
              have hGG := bH.lt
              have hOL := Lib.hid (fun (q : Nat) (hq : q ≤ 32) => outB_length H q HHL.out hq)
              have hOS := Lib.hid (fun (q : Nat) (hq : q < 32) => outB_step H q HHL.out hq)
              have hOE : Hid (outB H 32 = res) := Lib.hid (by rw [outB_end H HHL.out]; exact HPA.out)
              have hHlt : Hid (∀ d, d < 8 → H[d]? = some (H.getD d 0)) := Lib.hid (fun d hd => getD_some H d (by rw [HHL.out]; exact hd))
              clear HPA bH e1 e2
              go_upto_region 16 with fail
              generalize hW : World.alloc wr _ = w6
              have h7 : Blk w6 wr.heap.size 22 (bvs (outB H 0)) ∧ Blk w6 G 96 (wvs H) ∧ Blk w6 w.heap.size 22 (bvs (zb 32)) ∧ Below w.heap.size w w6 := by rw [← hW]; exact ⟨bO, bH1, bN, bW⟩
              clear hW bO bH1 bN bW
              obtain ⟨f1, f2, f3, f4⟩ := h7
              generalize wr.heap.size = G3 at *
              go_wp2_with fail
              go_loopw [9] (fun i wr => ∃ q : Nat, q ≤ 32 ∧ i = .int .i64 (q : Int) ∧ Blk wr G3 22 (bvs (outB H q)) ∧ Blk wr G 96 (wvs H) ∧ Blk wr w.heap.size 22 (bvs (zb 32)) ∧ Below w.heap.size w wr) (fun i _ => 32 - (intOf i).toNat)
              case atStart => exact ⟨0, by omega, by go_num, f1, f2, f3, f4⟩
              case round =>
                clear f1 f2 f3 f4
                obtain ⟨q, hq, rfl, f1, f2, f3, f4⟩ := hrel
                by_cases hql : q < 32
                · have hqz : (q : Int) < 32 := by omega
                  obtain ⟨d, hd⟩ : ∃ d, q / 4 = d := ⟨_, rfl⟩
                  obtain ⟨m, hm⟩ : ∃ m, q % 4 = m := ⟨_, rfl⟩
                  have hd8 : d < 8 := by omega
                  have hm4 : m < 4 := by omega
                  obtain ⟨x, hx⟩ : ∃ x, x = H.getD d 0 := ⟨_, rfl⟩
                  obtain ⟨S, hS⟩ : ∃ S, 24 - 8 * m = S := ⟨_, rfl⟩
                  have hS1 : S + 8 * m ≤ 24 := by omega
                  have hS2 : 24 ≤ S + 8 * m := by omega
                  obtain ⟨D, hD⟩ : ∃ D, 2 ^ S = D := ⟨_, rfl⟩
                  obtain ⟨y, hy⟩ : ∃ y, y = UInt8.ofNat (x / D) := ⟨_, rfl⟩
                  have ex : Hid (H[d]? = some x) := Lib.hid (by rw [hx]; exact hHlt.out d hd8)
                  have HS : Hid ((outB H q).set q y = outB H (q + 1)) := Lib.hid (by rw [hy, ← hD, ← hS, hx, ← hm, ← hd]; exact hOS.out q hql)
                  have HW : Hid (IntKind.u8.wrap ((x / D : Nat) : Int) = (y.toNat : Int)) := Lib.hid (by rw [hy]; exact wrap_ofNat _)
                  have HD := Lib.hid hd
                  have HM := Lib.hid hm
                  have HQL := Lib.hid (hOL.out q hq)
                  have HPD := Lib.hid hD
                  clear hx hy hd hm hS hD
                  go_upto_region 19 with fail
                  refine wp_region_lit ?_
                  refine wpList_yield rfl _ (exec_move _ rfl) ?_
                  simp only [Act.put, Act.eval, Array.getD_eq_getD_getElem?, List.getElem?_toArray, List.getElem?_cons_succ, List.getElem?_cons_zero, Option.getD_some, List.setIfInBounds_toArray, List.set_cons_zero, List.set_cons_succ]
                  refine wpList_yield rfl _ (exec_move _ rfl) ?_
                  simp only [Act.put, Act.eval, Array.getD_eq_getD_getElem?, List.getElem?_toArray, List.getElem?_cons_succ, List.getElem?_cons_zero, Option.getD_some, List.setIfInBounds_toArray, List.set_cons_zero, List.set_cons_succ]
                  refine wpList_yield rfl _ (exec_iquo _ _ rfl q 4 d rfl rfl (by decide) HD.out (by omega)) ?_
                  simp only [Act.put, List.setIfInBounds_toArray, List.set_cons_zero, List.set_cons_succ]
                  refine wpList_yield rfl _ (exec_ia0 ia96 _ _ rfl _ _ _ rfl rfl (by omega)) ?_
                  simp only [Act.put, List.setIfInBounds_toArray, List.set_cons_zero, List.set_cons_succ]
                  refine wpList_yield rfl _ (exec_wload w94 _ rfl _ _ _ _ _ rfl ((f2)) (ex.out)) ?_
                  simp only [Act.put, List.setIfInBounds_toArray, List.set_cons_zero, List.set_cons_succ]
                  refine wpList_yield rfl _ (exec_move _ rfl) ?_
                  simp only [Act.put, Act.eval, Array.getD_eq_getD_getElem?, List.getElem?_toArray, List.getElem?_cons_succ, List.getElem?_cons_zero, Option.getD_some, List.setIfInBounds_toArray, List.set_cons_zero, List.set_cons_succ]
                  refine wpList_yield rfl _ (exec_irem _ _ rfl q 4 m rfl rfl (by decide) HM.out) ?_
                  simp only [Act.put, List.setIfInBounds_toArray, List.set_cons_zero, List.set_cons_succ]
                  refine wpList_yield rfl _ (exec_imul _ _ rfl _ _ (((8 * m : Nat) : Int)) rfl rfl (by omega) (by omega)) ?_
                  simp only [Act.put, List.setIfInBounds_toArray, List.set_cons_zero, List.set_cons_succ]
                  refine wpList_yield rfl _ (exec_isub _ _ rfl _ _ (((S : Nat) : Int)) rfl rfl (by omega) (by omega)) ?_
                  simp only [Act.put, List.setIfInBounds_toArray, List.set_cons_zero, List.set_cons_succ]
                  refine wpList_yield rfl _ (exec_wshr _ _ rfl x S _ rfl rfl (by omega) D HPD.out) ?_
                  simp only [Act.put, List.setIfInBounds_toArray, List.set_cons_zero, List.set_cons_succ]
                  refine wpList_yield rfl _ (exec_conv Try.underlying94 Try.underlying5 _ rfl .u32 _ (y.toNat : Int) rfl rfl HW.out) ?_
                  simp only [Act.put, List.setIfInBounds_toArray, List.set_cons_zero, List.set_cons_succ]
                  refine wpList_yield rfl _ (exec_ia0 ia22 _ _ rfl _ q _ rfl rfl (by omega)) ?_
                  simp only [Act.put, List.setIfInBounds_toArray, List.set_cons_zero, List.set_cons_succ]
                  refine wpList_store_one rfl one5 (.tmp 68) (.tmp 67) rfl G3 q 22 (bvs (outB H q)) (.int .u8 (y.toNat : Int)) rfl rfl rfl f1 (by rw [bvs_length, HQL.out]; exact hql) ?_
                  (try simp only [Act.put, List.setIfInBounds_toArray, List.set_cons_zero, List.set_cons_succ])
                  refine wpList_nil ?_
                  go_wp2_with fail
                  go_roundw
                  case rel =>
                    have f1' : Blk (wr.setCell ⟨G3, q, none⟩ (.int .u8 (y.toNat : Int))) G3 22 (bvs (outB H (q + 1))) := by
                      have h := f1.set_ q (bv y)
                      rwa [set_bvs, HS.out] at h
                    exact ⟨q + 1, by omega, by go_num, f1', f2.far (by simp; omega) _, f3.far (by simp; omega) _, f4.setCell (by simp; omega) _⟩
                  case measure => simp only [intOf]; omega
                · obtain rfl : q = 32 := by omega
                  rw [hOE.out] at f1
                  have hrl : Hid (res.length = 32) := Lib.hid (by rw [← hOE.out]; exact hOL.out 32 (Nat.le_refl _))
                  clear hOE hOL hOS hHlt
                  go_wp2_with (first
                    | ((with_reducible refine at_dst 69 ?_); refine wpList_yield rfl _ (exec_load_agg at22w (.tmp 8) rfl _ 22 (bvs res) rfl f1 (by rw [bvs_length]; exact hrl.out)) ?_)
                    | ((with_reducible refine at_op (Op.store 22 (.tmp 2) (.tmp 69)) ?_); refine wpList_store_at at22w.i rfl (.tmp 2) (.tmp 69) rfl w.heap.size 0 22 (bvs (zb 32)) (bvs res) rfl rfl f3 (by rw [bvs_length]; exact hrl.out) (by rw [bvs_length, zb_length]; omega) (bvs_one _) ?_; intro w1 hb1 hg1 hs1))
                  (try simp only [Exit.inBlock, Exit.then])
                  rw [splice_all _ _ (by rw [bvs_length, bvs_length, zb_length]; exact hrl.out.symm)] at hb1
                  refine bodyPost_ret (ret_cell rfl at22w _ _ w.heap.size 22 (bvs res) rfl hb1 (by rw [bvs_length]; exact hrl.out)) rfl ?_
                  exact ⟨rfl, f4.grown hg1 f4.size (by intro k hk; cases hk; omega)⟩
    · have hrne : ((r : Int) == 56) = false := by
        have h := fun e => hjl (hst.1 e)
        simp; omega
      clear hst
      go_wp2_with (first
        | ((with_reducible refine at_dst 18 ?_); refine wpList_yield rfl _ (exec_irem _ _ rfl L 64 r rfl rfl (by decide) HR1.out) ?_)
        | ((with_reducible refine at_dst 22 ?_)
           refine wpList_append_bytes bt rfl (.tmp 20) (.tmp 21) rfl (w.heap.size + 1) _ (padTo b j) rfl (h2.own.below ((Below.refl wr.heap.size wr).alloc (Nat.le_refl _) _) (Nat.le_refl _)) (some ⟨wr.heap.size, 0, none⟩) 1 1 [0] rfl rfl (one_new wr 0 _ rfl) (by rw [HLL.out]; omega) (by have := h2.out.lt; simp; omega) ?_
           intro v3 w3 ho3 hg3 _
           have h3 : SumW w.heap.size w w3 v3 (padTo b (j + 1)) := by
             have h := h2.push _ hg3 ho3
             rwa [padTo_succ] at h
           clear h2 hg3))
      go_roundw
      case rel => exact ⟨j + 1, by omega, h3⟩
      case measure =>
        obtain ⟨A4, c4, e4, _, _, _⟩ := h3.own.rd
        have e5 : (padTo b (j + 1)).length = L + 1 := by rw [padTo_length, HLn.out, HL.out]; omega
        rw [e4, e5]
        simp only [sliceLen]
        have e6 := HLn.out
        omega
end Go.Proofs.Ytehbahobkgoapaa
namespace Go.Proofs.Ytehbahobkgoapaa
open Go Go.RowKit
set_option linter.unusedSimpArgs false
set_option linter.unusedVariables false
/-- Bytes that a reader may read on: none of them lies in a block of S. -/
structure Lft (S : Nat → Prop) (w : World) (A : Option Addr) (n c : Nat) (l : List UInt8) : Prop where
  len : l.length = n
  cap : n ≤ c
  max : c ≤ maxLen
  rd : Rd w A (bvs l)
  far : ∀ ad, A = some ad → ¬ S ad.block
theorem Lft.fr {S T : Nat → Prop} {w w' : World} {A : Option Addr} {n c : Nat} {l : List UInt8} (h : Lft S w A n c l) (hf : Fr T w w') (hT : ∀ k, T k → S k) : Lft S w' A n c l :=
  ⟨h.len, h.cap, h.max, h.rd.fr hf (fun ad e ht => h.far ad e (hT _ ht)), h.far⟩
theorem Lft.cut {S : Nat → Prop} {w : World} {A : Option Addr} {n c : Nat} {l : List UInt8} (h : Lft S w A n c l) (m : Nat) (hm : m ≤ n) : Lft S w (cutA A c m 1) (n - m) (c - m) (l.drop m) := by
  refine ⟨by simp [h.len], by have := h.cap; omega, by have := h.max; omega, ?_, ?_⟩
  · have h1 := h.rd.cutA (c := c) (lo := m) (z := 1) (by rw [bvs_length, h.len]; have := h.cap; omega) (n - m)
    have e : ((bvs l).drop (m * 1)).take (n - m) = bvs (l.drop m) := by
      rw [Nat.mul_one]
      unfold bvs
      rw [← List.map_drop, List.take_of_length_le (by simp [h.len])]
    rwa [e] at h1
  · intro ad e
    unfold cutA at e
    split at e
    · exact h.far ad e
    · cases A with
      | none => cases e
      | some a0 =>
        simp only [Option.map_some, Option.some.injEq] at e
        have hb : ad.block = a0.block := by rw [← e]; unfold Addr.add; split <;> rfl
        rw [hb]
        exact h.far a0 rfl
end Go.Proofs.Ytehbahobkgoapaa
namespace Go.Proofs.Ytehbahobkgoapaa
open Go Go.RowKit
set_option linter.unusedSimpArgs false
set_option linter.unusedVariables false
theorem stb_nil (b : List UInt8) (h : b.length = 64) : StB [] b := ⟨h, rfl⟩
set_option maxRecDepth 100000 in
set_option maxHeartbeats 1000000 in
theorem new_state (w : World) : Calls Try.prog 83 #[] w fun e w' => ∃ g, e = .returned (.pointer (some ⟨g, 0, none⟩)) ∧ w.heap.size ≤ g ∧ St w' g [] ∧ Below w.heap.size w w' := by
  have C := fun u => Lib.hid (begin_any u)
  unfold arrW at C
  go_enter Try.func83, Try.ntmps83
  go_upto_region 1 with fail
  refine wp_region_lit ?_
  refine wpList_plain rfl fun K hK => ?_; go_simp
  with_reducible refine (C _).out.mono ?_
  rintro e w1 ⟨rfl, hw1⟩
  refine hK _ _ ?_; clear hK
  (try simp only [Act.put, List.setIfInBounds_toArray, List.set_cons_zero, List.set_cons_succ])
  refine wpList_yield rfl _ (exec_build _ rfl (stC shaH (List.replicate 64 0) 0 0).toArray (by kernel_rfl)) ?_
  simp only [Act.put, List.setIfInBounds_toArray, List.set_cons_zero, List.set_cons_succ]
  refine wpList_plain rfl fun K hK => ?_; go_simp
  refine hK _ _ ?_; clear hK
  (try simp only [Act.put, List.setIfInBounds_toArray, List.set_cons_zero, List.set_cons_succ])
  refine wpList_yield rfl _ (exec_assign _ rfl) ?_
  simp only [Act.put, Act.eval, Array.getD_eq_getD_getElem?, List.getElem?_toArray, List.getElem?_cons_succ, List.getElem?_cons_zero, Option.getD_some, List.setIfInBounds_toArray, List.set_cons_zero, List.set_cons_succ]
  refine wpList_nil ?_
  go_wp2_with fail
  go_ret
  refine ⟨w1.heap.size, rfl, hw1.size, ⟨List.replicate 64 0, stb_nil _ (by simp), ?_⟩, hw1.trans (((Below.refl _ _).alloc (Nat.le_refl _) _).mono hw1.size)⟩
  exact Blk.new w1 128 (stC shaH (List.replicate 64 0) 0 0)
set_option maxRecDepth 100000 in
set_option maxHeartbeats 1000000 in
theorem none_no (g : Nat) (w : World) (hc : w.cell? ⟨g, 0, none⟩ = some (.bool true)) : Calls Try.prog 142 #[.pointer (some ⟨g, 0, none⟩)] w fun e w' => e = .returned (.bool false) ∧ w = w' := by
  go_enter Try.func142, Try.ntmps142
  go_wp2
  go_ret
  exact ⟨rfl, rfl⟩
theorem exec_load3 {w : World} {a : Act} {o : Oper} (x : Operand) (ho : o.op = .load 3 x) (ad : Addr) (v : Value) (hx : a.eval x = .pointer (some ad)) (hc : w.cell? ad = some v) : (execOp a.eval o).run Try.prog w = .ok (.value v) w := by
  obtain ⟨d, hu, hd⟩ := w3
  exact exec_load_one hu hd x ho ad v hx hc
theorem Blk.at0 {w : World} {g : Nat} {h : List Nat} {b : List UInt8} {n all : Nat} (hb : Blk w g 128 (stC h b n all)) : w.cell? ⟨g, 0, none⟩ = some (.bool true) := by rw [hb.cell]; rfl
theorem Blk.atN {w : World} {g : Nat} {h : List Nat} {b : List UInt8} {n all : Nat} (hb : Blk w g 128 (stC h b n all)) (hl : h.length = 8) (hb' : b.length = 64) : w.cell? ⟨g, 73, none⟩ = some (.int .i64 (n : Int)) := by rw [hb.cell]; exact stC_n hl hb'
theorem Blk.atA {w : World} {g : Nat} {h : List Nat} {b : List UInt8} {n all : Nat} (hb : Blk w g 128 (stC h b n all)) (hl : h.length = 8) (hb' : b.length = 64) : w.cell? ⟨g, 74, none⟩ = some (.int .i64 (all : Int)) := by rw [hb.cell]; exact stC_all hl hb'
set_option maxRecDepth 100000 in
set_option maxHeartbeats 1000000 in
theorem len_state (g : Nat) (m : List UInt8) (w : World) (h : St w g m) : Calls Try.prog 86 #[.pointer (some ⟨g, 0, none⟩)] w fun e w' => e = .returned (.int .i64 (m.length : Int)) ∧ w = w' := by
  obtain ⟨b, hs, hb⟩ := h
  have C := Lib.hid (none_no g w hb.at0)
  have hA := Lib.hid (hb.atA (hOf_length m) hs.1)
  clear hb
  go_enter Try.func86, Try.ntmps86
  go_wp2_with (first
    | (go_at_call 142; with_reducible refine C.out.mono ?_; rintro e w1 ⟨rfl, rfl⟩)
    | ((with_reducible refine at_dst 8 ?_); refine wpList_yield rfl _ (exec_load3 _ rfl _ _ rfl hA.out) ?_))
  go_ret
  exact ⟨rfl, rfl⟩
def zst : List Value := (stC (zw 8) (zb 64) 0 0).set 0 (.bool false)
theorem zst_length : zst.length = 75 := by unfold zst; rw [List.length_set]; exact stC_length rfl rfl
theorem zero128 : Try.zeroCells128 = zst.toArray := by kernel_rfl
set_option maxRecDepth 100000 in
set_option maxHeartbeats 1000000 in
theorem clone_state (g : Nat) (m : List UInt8) (w : World) (h : St w g m) : Calls Try.prog 87 #[.pointer (some ⟨g, 0, none⟩)] w fun e w' => ∃ g', e = .returned (.pointer (some ⟨g', 0, none⟩)) ∧ w.heap.size ≤ g' ∧ St w' g' m ∧ Below w.heap.size w w' := by
  obtain ⟨b, hs, hb⟩ := h
  have C := Lib.hid (none_no g w hb.at0)
  have HS := Lib.hid hs
  have HHL := Lib.hid (hOf_length m)
  have hcl : Hid ((stC (hOf m) b (m.length % 64) m.length).length = 75) := Lib.hid (stC_length HHL.out hs.1)
  have h1 := stC_one (hOf m) b (m.length % 64) m.length
  have hfin : ∀ (w' : World) (g' : Nat), Blk w' g' 128 (stC (hOf m) b (m.length % 64) m.length) → St w' g' m := fun w' g' h => ⟨b, hs, h⟩
  have HF := Lib.hid hfin
  clear hfin hs
  generalize stC (hOf m) b (m.length % 64) m.length = cs at *
  have hz0 : Blk (w.alloc (.cells Try.zeroCells128 128)) w.heap.size 128 zst := by rw [zero128]; exact Blk.new _ _ _
  have hw0 : Below w.heap.size w (w.alloc (.cells Try.zeroCells128 128)) := (Below.refl _ _).alloc (Nat.le_refl _) _
  go_enter Try.func87, Try.ntmps87
  go_upto_region 3 with (first
    | (go_at_call 142; with_reducible refine C.out.mono ?_; rintro e w1 ⟨rfl, rfl⟩))
  refine wp_region_lit ?_
  refine wpList_yield rfl _ (exec_move _ rfl) ?_
  simp only [Act.put, Act.eval, Array.getD_eq_getD_getElem?, List.getElem?_toArray, List.getElem?_cons_succ, List.getElem?_cons_zero, Option.getD_some, List.setIfInBounds_toArray, List.set_cons_zero, List.set_cons_succ]
  refine wpList_yield rfl _ (exec_nilck _ rfl _ rfl) ?_
  simp only [Act.put, List.setIfInBounds_toArray, List.set_cons_zero, List.set_cons_succ]
  refine wpList_yield rfl _ (exec_load_agg at128 (.tmp 7) rfl g 128 cs rfl hb hcl.out) ?_
  simp only [Act.put, List.setIfInBounds_toArray, List.set_cons_zero, List.set_cons_succ]
  refine wpList_plain rfl fun K hK => ?_; go_simp
  refine hK _ _ ?_; clear hK
  (try simp only [Act.put, List.setIfInBounds_toArray, List.set_cons_zero, List.set_cons_succ])
  refine wpList_store_at at128.i rfl (.tmp 3) (.tmp 8) rfl w.heap.size 0 128 zst cs rfl rfl hz0 hcl.out (by rw [zst_length]; exact Nat.le_refl 75) h1 ?_
  intro w2 hb2 hg2 hs2
  (try simp only [Act.put, List.setIfInBounds_toArray, List.set_cons_zero, List.set_cons_succ])
  refine wpList_nil ?_
  rw [splice_all _ _ (by rw [zst_length, hcl.out])] at hb2
  go_wp2_with fail
  go_ret
  exact ⟨w.heap.size, rfl, Nat.le_refl _, HF.out _ _ hb2, hw0.grown hg2 hw0.size (by intro k hk; cases hk; omega)⟩
theorem wp_copy_mid {P : Program} {T E S : TypeId} {w : World} {o : Oper} {a : Act} {Q : Exit → Act → World → Prop} {K : Act → World → Prop} (B : BT P T E S) (d s : Operand) (ho : o.op = .call { callee := .builtin .copy, args := #[d, s], argTypes := #[T, T] })
    (g off dLen dCap : Nat) (ad : Addr) (n sCap : Nat) (hd : a.eval d = .slice (some ⟨g, off, none⟩) dLen dCap) (hs : a.eval s = .slice (some ad) n sCap)
    (t : TypeId) (cs : List Value) (l : List UInt8) (hg : Blk w g t cs) (hr : Rd w (some ad) (bvs l)) (hn : l.length = n) (hfit : off + dLen ≤ cs.length) (k : Nat) (hk : Nat.min n dLen = k)
    (h : ∀ w', Blk w' g t (splice cs off (bvs (l.take dLen))) → w.grownBy w' (some g) → w'.heap.size = w.heap.size → K (a.put o.dst (.int .i64 (k : Int))) w') :
    o.wp P a w K Q := by
  obtain ⟨i, hi, hz, hsz, hb⟩ := info_parts B.i
  subst hn
  subst hk
  have hlen : (bvs (l.take dLen)).length = Nat.min l.length dLen := by
    show _ = min l.length dLen
    simp [bvs]; omega
  have hsrc : ∀ j u, (bvs (l.take dLen))[j]? = some u → w.cell? (ad.add j) = some u := by
    intro j u hu
    by_cases h0 : 0 < (bvs l).length
    · obtain ⟨ad', e, hc⟩ := hr h0
      cases e
      apply hc
      have hj : j < (l.take dLen).length := by
        have := (List.getElem?_eq_some_iff.1 hu).1
        rwa [bvs_length] at this
      rw [bvs_get, List.getElem?_take_of_lt (by simp at hj; omega)] at hu
      rw [bvs_get, hu]
    · have : l = [] := List.eq_nil_of_length_eq_zero (by simpa [bvs] using h0)
      subst this
      simp [bvs] at hu
  have hfl : off + (bvs (l.take dLen)).length ≤ cs.length := by
    rw [hlen]; have : Nat.min l.length dLen ≤ dLen := Nat.min_le_right _ _; omega
  have hrun := run_copy_row (P := P) w T T o.type E g off dLen dCap ad l.length sCap cs.toArray t (bvs (l.take dLen)) B.t (by rw [hi]; simp [hsz]) hg hlen hsrc (by simpa using hfl) (bvs_one _)
  unfold Oper.wp
  simp [execOp, ho, resolve, invoke, builtin, hd, hs, hrun, Result.andThen]
  have := h _ (hg.row (splice cs off (bvs (l.take dLen)))) (grownBy_setRow w g _) (by simp)
  rw [← hlen] at this
  show K (a.put o.dst _) _
  simpa [goInt, splice, bvs_length] using this
def Any (_ : World) : Prop := True
theorem any_at (w : World) : Any w := trivial
section
variable {P : Program} {ops : Array Oper} {Q : Exit → Act → World → Prop} {S' : World → Prop}
theorem wpF_turn {F F' : Nat → Bool} : ∀ (fuel : Nat) (listed : Array Bool) (a : Act) (w : World), wpF P ops Q S' F' fuel listed a w → wpF P ops Q Any F fuel listed a w
  | 0, _, _, _, h => h
  | fuel + 1, _, _, _, h => ⟨h.1, fun i hi => wpOp_mono (fun a' w' h' => ⟨fun _ => trivial, wpF_turn fuel _ a' w' h'.2⟩) (h.2 i hi)⟩
/-- From here on a condition of its own. -/
theorem rg_turn {F pl : List Nat} {g : Nat} {dn : List Nat} {rest : List (Nat × Oper)} {a : Act} {w : World} (S' : World → Prop) (F' : List Nat) (hp : planned ops F' pl dn (rest.map (·.1)) = true)
    (h : wpT P ops Q S' F' pl g dn rest a w) : wpT P ops Q Any F pl g dn rest a w := by
  intro hr _ hQ
  exact wpF_turn _ _ _ _ (h hr hp hQ)
end
theorem wp_pure {P : Program} {w : World} {o : Oper} {a : Act} {Q : Exit → Act → World → Prop} {K : Act → World → Prop} {v : Value} (hr : (execOp a.eval o).run P w = .ok (.value v) w) (h : K (a.put o.dst v) w) : o.wp P a w K Q := by
  unfold Oper.wp
  rw [hr]
  exact h
theorem exec_len24 {w : World} {a : Act} {o : Oper} (x : Operand) (ho : o.op = .call { callee := .builtin .len, args := #[x], argTypes := #[24] }) (A : Option Addr) (n c : Nat) (hx : a.eval x = .slice A n c) :
    (execOp a.eval o).run Try.prog w = .ok (.value (.int .i64 (n : Int))) w := by
  unfold execOp
  simp only [ho, resolve, invoke, builtin, Sem.run_bind, Sem.run_pure, Result.andThen_ok, List.map_toArray, List.map_cons, List.map_nil, hx]
  go_simp
/-- While bytes are written: d is written, r is left. -/
def WrS (g M : Nat) (m x : List UInt8) (w : World) (v : Value) (wr : World) : Prop :=
  ∃ (d r b' : List UInt8) (A' : Option Addr) (n' c' : Nat), Hid (d ++ r = x) ∧ v = .slice A' n' c' ∧ r.length = n' ∧ (0 < n' → Lft (· = g) wr A' n' c' r) ∧ StB (m ++ d) b' ∧ Blk wr g 128 (stC (hOf (m ++ d)) b' ((m ++ d).length % 64) M) ∧ Fr (· = g) w wr
set_option maxRecDepth 100000 in
set_option maxHeartbeats 4000000 in
theorem write_state (g : Nat) (m : List UInt8) (A : Option Addr) (n c : Nat) (x : List UInt8) (w : World) (h : St w g m) (hl : x.length = n) (hx : 0 < n → Lft (· = g) w A n c x) (hb : m.length + n ≤ 4611686018427387904) :
    Calls Try.prog 84 #[.pointer (some ⟨g, 0, none⟩), .slice A n c] w fun e w' => e = .returned (.int .i64 (n : Int)) ∧ St w' g (m ++ x) ∧ Fr (· = g) w w' := by
  obtain ⟨b, hs, hblk⟩ := h
  have C := Lib.hid (none_no g w hblk.at0)
  have HHL := hOf_length m
  have hA := Lib.hid (hblk.atA HHL hs.1)
  have hset := hblk.set_ 74 (.int .i64 ((m.length + n : Nat) : Int))
  rw [stC_set_all HHL hs.1] at hset
  have hlen := Lib.hid (stC_length HHL hs.1 (n := m.length % 64) (all := m.length))
  have HX := Lib.hid hl
  have HM : Hid ((m ++ x).length = m.length + n) := Lib.hid (by rw [List.length_append, hl])
  have HS := Lib.hid hs
  have hfr : Fr (· = g) w (w.setCell ⟨g, 74, none⟩ (.int .i64 ((m.length + n : Nat) : Int))) := Fr.setCell (p := ⟨g, 74, none⟩) (Fr.refl (· = g) w) (.inl rfl) _
  obtain ⟨M, hMd⟩ : ∃ M, m.length + n = M := ⟨_, rfl⟩
  rw [hMd] at hset HM hb hfr
  have hM2 : (m.length : Int) + (n : Int) = (M : Int) := by omega
  have HM2 := Lib.hid hM2
  clear hMd hM2 hs hl
  go_enter Try.func84, Try.ntmps84
  go_upto_region 3 with (first
    | (go_at_call 142; with_reducible refine C.out.mono ?_; rintro e w1 ⟨rfl, rfl⟩))
  refine wp_region_lit ?_
  refine wpList_yield rfl _ (exec_move _ rfl) ?_
  simp only [Act.put, Act.eval, Array.getD_eq_getD_getElem?, List.getElem?_toArray, List.getElem?_cons_succ, List.getElem?_cons_zero, Option.getD_some, List.setIfInBounds_toArray, List.set_cons_zero, List.set_cons_succ]
  refine wpList_yield rfl _ (exec_nilck _ rfl _ rfl) ?_
  simp only [Act.put, List.setIfInBounds_toArray, List.set_cons_zero, List.set_cons_succ]
  refine wpList_yield rfl _ (exec_f4 _ rfl g rfl) ?_
  simp only [Act.put, List.setIfInBounds_toArray, List.set_cons_zero, List.set_cons_succ]
  refine wpList_yield rfl _ (exec_load3 _ rfl _ _ rfl hA.out) ?_
  simp only [Act.put, List.setIfInBounds_toArray, List.set_cons_zero, List.set_cons_succ]
  refine wpList_yield rfl _ (exec_move _ rfl) ?_
  simp only [Act.put, Act.eval, Array.getD_eq_getD_getElem?, List.getElem?_toArray, List.getElem?_cons_succ, List.getElem?_cons_zero, Option.getD_some, List.setIfInBounds_toArray, List.set_cons_zero, List.set_cons_succ]
  refine wpList_yield rfl _ (exec_len24 _ rfl A n c rfl) ?_
  simp only [Act.put, List.setIfInBounds_toArray, List.set_cons_zero, List.set_cons_succ]
  refine wpList_yield rfl _ (exec_iadd _ _ rfl _ _ ((M : Nat) : Int) rfl rfl HM2.out (by omega)) ?_
  simp only [Act.put, List.setIfInBounds_toArray, List.set_cons_zero, List.set_cons_succ]
  refine wpList_yield rfl _ (exec_nilck _ rfl _ rfl) ?_
  simp only [Act.put, List.setIfInBounds_toArray, List.set_cons_zero, List.set_cons_succ]
  refine wpList_yield rfl _ (exec_f4 _ rfl g rfl) ?_
  simp only [Act.put, List.setIfInBounds_toArray, List.set_cons_zero, List.set_cons_succ]
  refine wpList_store_one rfl one3 (.tmp 17) (.tmp 15) rfl g 74 128 _ (.int .i64 ((M : Nat) : Int)) rfl rfl rfl hblk (by rw [hlen.out]; decide) ?_
  (try simp only [Act.put, List.setIfInBounds_toArray, List.set_cons_zero, List.set_cons_succ])
  refine wpList_nil ?_
  clear hblk hA hlen
  generalize World.setCell w _ _ = w1 at *
  go_wp2_with fail
  go_loopw [5] (fun v wr => WrS g M m x w v wr) (fun v _ => sliceLen v)
  case atStart => exact ⟨[], x, b, A, n, c, rfl, rfl, HX.out, fun h0 => (hx h0).fr hfr (fun k e => e), by rw [List.append_nil]; exact HS.out, by rw [List.append_nil]; exact hset, hfr⟩
  case round =>
    clear hset hfr
    obtain ⟨d, r, b', A', n', c', hdr, rfl, hL, hr, hsb, hblk, hfr⟩ := hrel
    obtain ⟨N, hN⟩ : ∃ N, (m ++ d).length % 64 = N := ⟨_, rfl⟩
    have hN64 : N < 64 := by omega
    have HN := Lib.hid hN
    rw [hN] at hblk
    clear hN
    have HHD := hOf_length (m ++ d)
    by_cases h0 : 0 < n'
    · have hr := hr h0
      have hz0 : (0 : Int) < (n' : Int) := by omega
      obtain ⟨ad, rfl⟩ : ∃ ad, A' = some ad := by
        obtain ⟨ad, h, _⟩ := hr.rd.at_ (k := 0) (by rw [bvs_length]; omega)
        exact ⟨ad, h⟩
      have hcn := Lib.hid (hblk.atN HHD hsb.1)
      obtain ⟨k, hk⟩ : ∃ k, Nat.min n' (64 - N) = k := ⟨_, rfl⟩
      have hk' : min n' (64 - N) = k := hk
      have hkn : k ≤ n' := by omega
      have hkN : N + k ≤ 64 := by omega
      have hk0 : 0 < k := by omega
      have hkc : N + k < 64 → k = n' := by omega
      have HK := Lib.hid hk
      clear hk
      obtain ⟨y, hy⟩ : ∃ y, y = r.take (64 - N) := ⟨_, rfl⟩
      have hyk : y = r.take k := by
        rw [hy]
        by_cases hc : n' ≤ 64 - N
        · rw [List.take_of_length_le (by omega), List.take_of_length_le (by omega)]
        · rw [show 64 - N = k by omega]
      have hyl : y.length = k := by rw [hyk, List.length_take]; omega
      have hcut := hr.cut k hkn
      have hdr' : Hid ((d ++ y) ++ r.drop k = x) := Lib.hid (by rw [List.append_assoc, hyk, List.take_append_drop]; exact hdr.out)
      have hput : splice (stC (hOf (m ++ d)) b' N M) (9 + N) (bvs y) = stC (hOf (m ++ d)) (splice b' N y) N M := stC_put_b HHD hsb.1 N y (by omega)
      have hbl : (splice b' N y).length = 64 := by rw [splice_bytes_length _ _ _ (by rw [hsb.1]; omega)]; exact hsb.1
      have hset : (stC (hOf (m ++ d)) (splice b' N y) N M).set 73 (.int .i64 ((N + k : Nat) : Int)) = stC (hOf (m ++ d)) (splice b' N y) (N + k) M := stC_set_n HHD hbl (N + k)
      have HPUT := Lib.hid hput
      have HSET := Lib.hid hset
      have HY := Lib.hid hy
      have HYL := Lib.hid hyl
      have HBL := Lib.hid hbl
      have hfew := Lib.hid (fun (hlt : N + k < 64) => stb_few hsb y (by rw [HN.out, hyl]; exact hlt))
      have hful := Lib.hid (fun (hlt : N + k = 64) => stb_full hsb y (by rw [HN.out, hyl]; exact hlt))
      rw [HN.out] at hfew hful
      have hcl := Lib.hid (stC_length HHD hsb.1 (n := N) (all := M))
      have hcl2 := Lib.hid (stC_length HHD hbl (n := N) (all := M))
      clear hy hyk hyl hput hset hk' hL hbl
      go_upto_region 6 with fail
      refine rg_begin (fun (W : World) => World.cell? W ⟨g, 73, none⟩ = some (Value.int IntKind.i64 (N : Int))) [] [9] [0, 1, 2, 3, 4, 5, 6, 7, 8, 9, 10] 0 mixed (by kernel_rfl) (fun _ _ _ _ e hh => ⟨e.symm.trans hh.1, hh.2⟩) ?_
      simp only [pick, List.map_cons, List.map_nil, List.getD_cons_zero, List.getD_cons_succ]
      have hS : (fun (W : World) => World.cell? W ⟨g, 73, none⟩ = some (Value.int IntKind.i64 (N : Int))) _ := hcn.out
      refine rg_take (v := ?v1_0) rfl rfl hS ?y1_0 ?_
      case y1_0 => intro W hW; (try subst hW); go_simp; try with_reducible rfl
      simp only [Act.put, List.setIfInBounds_toArray, List.set_cons_zero, List.set_cons_succ]
      refine rg_take rfl rfl hS (fun W hW => exec_nilck _ rfl _ rfl) ?_
      simp only [Act.put, List.setIfInBounds_toArray, List.set_cons_zero, List.set_cons_succ]
      refine rg_take rfl rfl hS (fun W hW => exec_f2 _ rfl g rfl) ?_
      simp only [Act.put, List.setIfInBounds_toArray, List.set_cons_zero, List.set_cons_succ]
      refine rg_take (v := ?v1_3) rfl rfl hS ?y1_3 ?_
      case y1_3 => intro W hW; (try subst hW); go_simp; try with_reducible rfl
      simp only [Act.put, List.setIfInBounds_toArray, List.set_cons_zero, List.set_cons_succ]
      refine rg_take rfl rfl hS (fun W hW => exec_nilck _ rfl _ rfl) ?_
      simp only [Act.put, List.setIfInBounds_toArray, List.set_cons_zero, List.set_cons_succ]
      refine rg_take rfl rfl hS (fun W hW => exec_f3 _ rfl g rfl) ?_
      simp only [Act.put, List.setIfInBounds_toArray, List.set_cons_zero, List.set_cons_succ]
      refine rg_take rfl rfl hS (fun W hW => exec_load3 _ rfl _ _ rfl hW) ?_
      simp only [Act.put, List.setIfInBounds_toArray, List.set_cons_zero, List.set_cons_succ]
      refine rg_take rfl rfl hS (fun W hW => exec_arr_from ia97 _ _ rfl g 9 N _ rfl rfl hN64) ?_
      simp only [Act.put, List.setIfInBounds_toArray, List.set_cons_zero, List.set_cons_succ]
      refine rg_take (v := ?v1_8) rfl rfl hS ?y1_8 ?_
      case y1_8 => intro W hW; (try subst hW); go_simp; try with_reducible rfl
      simp only [Act.put, List.setIfInBounds_toArray, List.set_cons_zero, List.set_cons_succ]
      refine rg_one rfl rfl ?_; intro K hK
      refine wp_copy_mid bt (.tmp 29) (.tmp 30) rfl g (9 + N) (64 - N) (64 - N) ad n' c' rfl rfl 128 _ r hblk.drew hr.rd.drew hr.len (by rw [hcl.out]; omega) k HK.out ?_
      intro w2 hb2 hg2 hs2
      rw [← HY.out, HPUT.out] at hb2
      have hS1 := hb2.atN HHD HBL.out
      refine hK _ _ (fun _ => hS1) ?_; clear hK
      simp only [Act.put, List.setIfInBounds_toArray, List.set_cons_zero, List.set_cons_succ]
      refine rg_take (v := ?v1_10) rfl rfl hS1 ?y1_10 ?_
      case y1_10 => intro W hW; (try subst hW); go_simp; try with_reducible rfl
      simp only [Act.put, List.setIfInBounds_toArray, List.set_cons_zero, List.set_cons_succ]
      refine rg_done (by kernel_rfl) ?_
      have hfr2 : Fr (· = g) w w2 := hfr.drew.grown hg2 (by intro k hk; cases hk; exact .inl rfl)
      have hr2 : Fr (· = g) wr w2 := (Fr.refl (· = g) wr).drew.grown hg2 (by intro k hk; cases hk; exact .inl rfl)
      have hc2 := Lib.hid (hb2.atN HHD HBL.out)
      clear hg2 hs2 hblk hfr hcn
      go_upto_region 7 with fail
      refine wp_region_lit ?_
      refine wpList_yield rfl _ (exec_move _ rfl) ?_
      simp only [Act.put, Act.eval, Array.getD_eq_getD_getElem?, List.getElem?_toArray, List.getElem?_cons_succ, List.getElem?_cons_zero, Option.getD_some, List.setIfInBounds_toArray, List.set_cons_zero, List.set_cons_succ]
      refine wpList_yield rfl _ (exec_move _ rfl) ?_
      simp only [Act.put, Act.eval, Array.getD_eq_getD_getElem?, List.getElem?_toArray, List.getElem?_cons_succ, List.getElem?_cons_zero, Option.getD_some, List.setIfInBounds_toArray, List.set_cons_zero, List.set_cons_succ]
      refine wpList_yield rfl _ (exec_slice_from st24 _ _ rfl (some ad) n' c' k .i64 rfl rfl hkn) ?_
      simp only [Act.put, List.setIfInBounds_toArray, List.set_cons_zero, List.set_cons_succ]
      refine wpList_yield rfl _ (exec_assign _ rfl) ?_
      simp only [Act.put, Act.eval, Array.getD_eq_getD_getElem?, List.getElem?_toArray, List.getElem?_cons_succ, List.getElem?_cons_zero, Option.getD_some, List.setIfInBounds_toArray, List.set_cons_zero, List.set_cons_succ]
      refine wpList_nil ?_
      go_upto_region 8 with fail
      have hNk : (N : Int) + (k : Int) = ((N + k : Nat) : Int) := by omega
      have HNk := Lib.hid hNk
      obtain ⟨N2, hN2⟩ : ∃ N2, N + k = N2 := ⟨_, rfl⟩
      have HN2 := Lib.hid hN2
      rw [hN2] at hNk HNk hkN hkc HSET hfew hful
      clear hN2 hNk
      refine wp_region_lit ?_
      refine wpList_yield rfl _ (exec_move _ rfl) ?_
      simp only [Act.put, Act.eval, Array.getD_eq_getD_getElem?, List.getElem?_toArray, List.getElem?_cons_succ, List.getElem?_cons_zero, Option.getD_some, List.setIfInBounds_toArray, List.set_cons_zero, List.set_cons_succ]
      refine wpList_yield rfl _ (exec_nilck _ rfl _ rfl) ?_
      simp only [Act.put, List.setIfInBounds_toArray, List.set_cons_zero, List.set_cons_succ]
      refine wpList_yield rfl _ (exec_f3 _ rfl g rfl) ?_
      simp only [Act.put, List.setIfInBounds_toArray, List.set_cons_zero, List.set_cons_succ]
      refine wpList_yield rfl _ (exec_load3 _ rfl _ _ rfl hc2.out) ?_
      simp only [Act.put, List.setIfInBounds_toArray, List.set_cons_zero, List.set_cons_succ]
      refine wpList_yield rfl _ (exec_move _ rfl) ?_
      simp only [Act.put, Act.eval, Array.getD_eq_getD_getElem?, List.getElem?_toArray, List.getElem?_cons_succ, List.getElem?_cons_zero, Option.getD_some, List.setIfInBounds_toArray, List.set_cons_zero, List.set_cons_succ]
      refine wpList_yield rfl _ (exec_iadd _ _ rfl _ _ ((N2 : Nat) : Int) rfl rfl HNk.out (by omega)) ?_
      simp only [Act.put, List.setIfInBounds_toArray, List.set_cons_zero, List.set_cons_succ]
      refine wpList_yield rfl _ (exec_nilck _ rfl _ rfl) ?_
      simp only [Act.put, List.setIfInBounds_toArray, List.set_cons_zero, List.set_cons_succ]
      refine wpList_yield rfl _ (exec_f3 _ rfl g rfl) ?_
      simp only [Act.put, List.setIfInBounds_toArray, List.set_cons_zero, List.set_cons_succ]
      refine wpList_store_one rfl one3 (.tmp 42) (.tmp 40) rfl g 73 128 _ (.int .i64 ((N2 : Nat) : Int)) rfl rfl rfl hb2 (by rw [hcl2.out]; decide) ?_
      (try simp only [Act.put, List.setIfInBounds_toArray, List.set_cons_zero, List.set_cons_succ])
      refine wpList_nil ?_
      have hb3 := hb2.set_ 73 (.int .i64 ((N2 : Nat) : Int))
      rw [HSET.out] at hb3
      have hfr3 : Fr (· = g) w2 (w2.setCell ⟨g, 73, none⟩ (.int .i64 ((N2 : Nat) : Int))) := Fr.setCell (p := ⟨g, 73, none⟩) (Fr.refl (· = g) w2) (.inl rfl) _
      generalize World.setCell w2 _ _ = w3 at *
      have hfr4 := hfr2.trans hfr3
      have hr4 := hr2.trans hfr3
      have hrest := hcut.fr hr4 (fun k e => e)
      have hc3 := Lib.hid (hb3.atN HHD HBL.out)
      clear hfr2 hfr3 hr2 hb2 hcut hr hc2 hcl hcl2 HSET HPUT
      by_cases hful' : N2 = 64
      · obtain ⟨f1, f2, f3, f4⟩ := hful.out hful'
        subst hful'
        have C2 := fun u => Lib.hid (step_any (hOf (m ++ d)) (splice b' N y) u HHD (hOf_lt _) HBL.out)
        rw [← f2] at C2
        have HF2 := Lib.hid f2
        have HH2 := Lib.hid (hOf_length (m ++ d ++ y))
        have hcl3 := Lib.hid (stC_length HHD HBL.out (n := 64) (all := M))
        have hcl4 := Lib.hid (stC_length HH2.out HBL.out (n := 64) (all := M))
        have hdh : Hid (((stC (hOf (m ++ d)) (splice b' N y) 64 M).drop 1).take 8 = wvs (hOf (m ++ d))) := Lib.hid (stC_h HHD)
        have hdb : Hid (((stC (hOf (m ++ d)) (splice b' N y) 64 M).drop 9).take 64 = bvs (splice b' N y)) := Lib.hid (stC_b HHD HBL.out)
        have hph : Hid (splice (stC (hOf (m ++ d)) (splice b' N y) 64 M) 1 (wvs (hOf (m ++ d ++ y))) = stC (hOf (m ++ d ++ y)) (splice b' N y) 64 M) := Lib.hid (stC_put_h HHD _ HH2.out)
        have hp0 : Hid ((stC (hOf (m ++ d ++ y)) (splice b' N y) 64 M).set 73 (.int .i64 ((0 : Nat) : Int)) = stC (hOf (m ++ d ++ y)) (splice b' N y) 0 M) := Lib.hid (stC_set_n HH2.out HBL.out 0)
        have HSB := Lib.hid (f1 _ HBL.out)
        rw [HYL.out] at *
        unfold arrW arr8 at C2
        go_upto_region 10 with (first
          | ((with_reducible refine at_dst 46 ?_); refine wpList_yield rfl _ (exec_load3 _ rfl _ _ rfl hc3.out) ?_))
        refine rg_begin (Any) [] [10, 11, 12, 13, 14, 15, 16] [0, 1, 2, 3, 4, 5, 6, 7, 8, 9, 10, 11, 12, 13, 14, 15, 16] 0 mixed (by kernel_rfl) (fun _ _ _ _ e hh => ⟨e.symm.trans hh.1, hh.2⟩) ?_
        simp only [pick, List.map_cons, List.map_nil, List.getD_cons_zero, List.getD_cons_succ]
        have hS0 : (Any) _ := any_at w3.drew
        refine rg_take (v := ?v2_0) rfl rfl hS0 ?y2_0 ?_
        case y2_0 => intro W hW; (try subst hW); go_simp; try with_reducible rfl
        simp only [Act.put, List.setIfInBounds_toArray, List.set_cons_zero, List.set_cons_succ]
        refine rg_take (v := ?v2_1) rfl rfl hS0 ?y2_1 ?_
        case y2_1 => intro W hW; (try subst hW); go_simp; try with_reducible rfl
        simp only [Act.put, List.setIfInBounds_toArray, List.set_cons_zero, List.set_cons_succ]
        refine rg_take (v := ?v2_2) rfl rfl hS0 ?y2_2 ?_
        case y2_2 => intro W hW; (try subst hW); go_simp; try with_reducible rfl
        simp only [Act.put, List.setIfInBounds_toArray, List.set_cons_zero, List.set_cons_succ]
        refine rg_turn (Below w3.heap.size w3) [13, 14, 15, 16] (by kernel_rfl) ?_
        have hS : Below w3.heap.size w3 w3.drew := (Below.refl _ _).drew
        refine rg_take rfl rfl hS (fun W hW => exec_nilck _ rfl _ rfl) ?_
        simp only [Act.put, List.setIfInBounds_toArray, List.set_cons_zero, List.set_cons_succ]
        refine rg_take rfl rfl hS (fun W hW => exec_f1 _ rfl g rfl) ?_
        simp only [Act.put, List.setIfInBounds_toArray, List.set_cons_zero, List.set_cons_succ]
        refine rg_take rfl rfl hS (fun W hW => exec_load_at at96 _ rfl g 1 128 _ (wvs (hOf (m ++ d))) rfl (hb3.below hW hb3.lt) hdh.out (by rw [wvs_length]; exact HHD)) ?_
        simp only [Act.put, List.setIfInBounds_toArray, List.set_cons_zero, List.set_cons_succ]
        refine rg_take (v := ?v2_6) rfl rfl hS ?y2_6 ?_
        case y2_6 => intro W hW; (try subst hW); go_simp; try with_reducible rfl
        simp only [Act.put, List.setIfInBounds_toArray, List.set_cons_zero, List.set_cons_succ]
        refine rg_take rfl rfl hS (fun W hW => exec_nilck _ rfl _ rfl) ?_
        simp only [Act.put, List.setIfInBounds_toArray, List.set_cons_zero, List.set_cons_succ]
        refine rg_take rfl rfl hS (fun W hW => exec_f2 _ rfl g rfl) ?_
        simp only [Act.put, List.setIfInBounds_toArray, List.set_cons_zero, List.set_cons_succ]
        refine rg_take rfl rfl hS (fun W hW => exec_load_at at97 _ rfl g 9 128 _ (bvs (splice b' N y)) rfl (hb3.below hW hb3.lt) hdb.out (by rw [bvs_length]; exact HBL.out)) ?_
        simp only [Act.put, List.setIfInBounds_toArray, List.set_cons_zero, List.set_cons_succ]
        refine rg_one rfl rfl ?_; intro K hK; go_simp
        with_reducible refine (C2 _).out.mono ?_
        rintro e w5 ⟨rfl, hw5⟩
        have hS1 : Below w3.heap.size w3 w5 := Below.trans hS (hw5.mono (Below.size hS))
        refine hK _ _ (fun _ => hS1) ?_; clear hK
        refine rg_one rfl rfl ?_; intro K hK
        refine wp_pure (exec_nilck _ rfl _ rfl) ?_
        refine hK _ _ (fun _ => hS1) ?_; clear hK
        simp only [Act.put, List.setIfInBounds_toArray, List.set_cons_zero, List.set_cons_succ]
        refine rg_one rfl rfl ?_; intro K hK
        refine wp_pure (exec_f1 _ rfl g rfl) ?_
        refine hK _ _ (fun _ => hS1) ?_; clear hK
        simp only [Act.put, List.setIfInBounds_toArray, List.set_cons_zero, List.set_cons_succ]
        refine rg_one rfl rfl ?_; intro K hK
        refine wp_store_at at96.i (.tmp 60) (.tmp 58) rfl g 1 128 _ (wvs (hOf (m ++ d ++ y))) rfl rfl (hb3.below hS1 hb3.lt) (by rw [wvs_length]; exact HH2.out) (by rw [hcl3.out]; decide) (wvs_one _) ?_
        intro w6 hb6 hg6 hs6
        rw [hph.out] at hb6
        refine hK _ _ (fun h => by cases h) ?_; clear hK
        refine rg_one rfl rfl ?_; intro K hK
        refine wp_pure (exec_nilck _ rfl _ rfl) ?_
        refine hK _ _ (fun h => by cases h) ?_; clear hK
        simp only [Act.put, List.setIfInBounds_toArray, List.set_cons_zero, List.set_cons_succ]
        refine rg_one rfl rfl ?_; intro K hK
        refine wp_pure (exec_f3 _ rfl g rfl) ?_
        refine hK _ _ (fun h => by cases h) ?_; clear hK
        simp only [Act.put, List.setIfInBounds_toArray, List.set_cons_zero, List.set_cons_succ]
        refine rg_one rfl rfl ?_; intro K hK
        refine wp_store_one one3 _ _ rfl g 73 128 _ (.int .i64 0) rfl rfl rfl hb6 (by rw [hcl4.out]; decide) ?_
        refine hK _ _ (fun h => by cases h) ?_; clear hK
        refine rg_done (by kernel_rfl) ?_
        have hb7 := hb6.set_ 73 (.int .i64 0)
        rw [show (Value.int .i64 0) = .int .i64 ((0 : Nat) : Int) from rfl, hp0.out] at hb7
        have hfr7 : Fr (· = g) w3 (w6.setCell ⟨g, 73, none⟩ (.int .i64 0)) :=
          ((Fr.of_below hS1).grown hg6 (by intro k hk; cases hk; exact .inl rfl)).trans (Fr.setCell (p := ⟨g, 73, none⟩) (Fr.refl (· = g) w6) (.inl rfl) _)
        go_wp2_with fail
        go_roundw
        case rel =>
          refine ⟨d ++ y, r.drop k, splice b' N y, _, _, _, hdr', rfl, hrest.len, fun _ => hrest.fr hfr7 (fun k e => e), by rw [← List.append_assoc]; exact HSB.out, ?_, hfr4.trans hfr7⟩
          rw [← List.append_assoc, f3]
          exact hb7
        case measure => simp only [sliceLen]; omega
      · obtain ⟨f1, f2, f3⟩ := hfew.out (by omega)
        have hne : ((N2 : Int) == 64) = false := by simp; omega
        rw [HYL.out] at f3
        go_wp2_with (first
          | ((with_reducible refine at_dst 46 ?_); refine wpList_yield rfl _ (exec_load3 _ rfl _ _ rfl hc3.out) ?_))
        go_roundw
        case rel =>
          refine ⟨d ++ y, r.drop k, splice b' N y, _, _, _, hdr', rfl, hrest.len, fun _ => hrest, by rw [← List.append_assoc]; exact f1, ?_, hfr4⟩
          rw [← List.append_assoc, f2, f3, HN2.out]
          exact hb3
        case measure => simp only [sliceLen]; omega
    · obtain rfl : n' = 0 := by omega
      obtain rfl : r = [] := List.eq_nil_of_length_eq_zero hL
      obtain rfl : d = x := by have h := hdr.out; rwa [List.append_nil] at h
      clear hr
      go_upto_region 11 with fail
      refine wp_region_lit ?_
      refine wpList_yield rfl _ (exec_move _ rfl) ?_
      simp only [Act.put, Act.eval, Array.getD_eq_getD_getElem?, List.getElem?_toArray, List.getElem?_cons_succ, List.getElem?_cons_zero, Option.getD_some, List.setIfInBounds_toArray, List.set_cons_zero, List.set_cons_succ]
      refine wpList_yield rfl _ (exec_len24 _ rfl A n c rfl) ?_
      simp only [Act.put, List.setIfInBounds_toArray, List.set_cons_zero, List.set_cons_succ]
      refine wpList_yield rfl _ (exec_assign _ rfl) ?_
      simp only [Act.put, Act.eval, Array.getD_eq_getD_getElem?, List.getElem?_toArray, List.getElem?_cons_succ, List.getElem?_cons_zero, Option.getD_some, List.setIfInBounds_toArray, List.set_cons_zero, List.set_cons_succ]
      refine wpList_nil ?_
      go_wp2_with fail
      go_ret
      refine ⟨rfl, ⟨b', hsb, ?_⟩, hfr⟩
      rw [HN.out, HM.out]
      exact hblk
end Go.Proofs.Ytehbahobkgoapaa
namespace Go.Proofs.Ytehbahobkgoapaa
open Go Go.RowKit
set_option linter.unusedSimpArgs false
set_option linter.unusedVariables false
theorem exec_uand {P : Program} {w : World} {a : Act} {o : Oper} {t t' : TypeId} (x y : Operand) (ho : o.op = .binOp .and t x y t') (m n r : Nat) (hx : a.eval x = .int .u64 (m : Int)) (hy : a.eval y = .int .u64 (n : Int)) (hm : m < 18446744073709551616) (hn : n < 18446744073709551616) (hr : m &&& n = r) :
    (execOp a.eval o).run P w = .ok (.value (.int .u64 (r : Int))) w := by
  subst hr
  unfold execOp
  simp only [ho, hx, hy]
  go_simp
  rw [u64_and_nat _ _ hm hn]
theorem and_low (T : Nat) : T &&& 4294967295 = T % 4294967296 := Nat.and_two_pow_sub_one_eq_mod T 32
theorem put32_be (x : Nat) (u : World) (hx : x < 4294967296) :
    Calls Try.prog 37 #[.int .i64 (x : Int)] u fun e w' => ∃ A c, e = .returned (.tuple #[.slice A 4 c, .int .i64 0]) ∧ OwnB w' u.heap.size 5 (.slice A 4 c) (be 4 x) ∧ Below u.heap.size u w' := by
  have e1 : putE 4294967295 (x : Int) = 0 := by unfold putE; rw [if_pos (by omega)]
  have e2 : putL 4 4294967295 (x : Int) = be 4 x := by unfold putL; rw [if_pos (by omega), Int.toNat_natCast]
  refine (put32 (x : Int) u (by omega)).mono ?_
  rintro e w' ⟨v, rfl, ho, hw⟩
  rw [e1, e2] at *
  obtain ⟨A, c, rfl, _⟩ := ho.rd
  rw [be_length] at ho ⊢
  exact ⟨A, c, rfl, ho, hw⟩
theorem OwnB.lft {w : World} {base E g : Nat} {A : Option Addr} {n c : Nat} {l : List UInt8} (h : OwnB w base E (.slice A n c) l) (hg : g < base) : Lft (· = g) w A n c l := by
  obtain ⟨A', c', e, h1, h2, h3⟩ := h.rd
  injection e with e1 e2 e3
  subst e1; subst e3
  refine ⟨e2.symm, by omega, h2, h3, ?_⟩
  intro ad had e
  rcases h with ⟨h, _⟩ | ⟨g', sp, h, hb, _⟩
  · injection h with h _ _
    rw [had] at h
    cases h
  · injection h with h _ _
    rw [had] at h
    cases h
    simp at e
    omega
theorem one_lft {w : World} {g : Nat} (x : UInt8) (v : Value) (hv : bv x = v) (hg : g < w.heap.size) : Lft (· = g) (w.alloc (.cells #[v] 5)) (some ⟨w.heap.size, 0, none⟩) 1 1 [x] :=
  ⟨rfl, Nat.le_refl _, by decide, one_new w x v hv, by intro ad h e; cases h; simp at e; omega⟩
theorem fr_below {S : Nat → Prop} {a b : World} {B : Nat} (h : Fr S a b) (hS : ∀ k, S k → B ≤ k) (hB : B ≤ a.heap.size) : Below B a b :=
  ⟨h.os, h.tape, h.output, h.size, fun k hk => h.block k (by omega) (fun hs => by have := hS k hs; omega)⟩
def allOf (w : World) (g : Nat) : Nat := match w.cell? ⟨g, 74, none⟩ with
  | some (.int _ z) => z.toNat
  | _ => 0
theorem St.all {w : World} {g : Nat} {m : List UInt8} (h : St w g m) : allOf w g = m.length := by
  obtain ⟨b, hs, hb⟩ := h
  unfold allOf
  rw [hb.atA (hOf_length m) hs.1]
  simp
/-- While a copy of the state is ended: the result's block, the copy in block g. -/
structure SumS (N g : Nat) (w wr : World) (m : List UInt8) : Prop where
  bel : Below N w wr
  out : Blk wr N 25 (bvs (zb 32))
  st : St wr g m
  lt : N < g
theorem SumS.write {N g : Nat} {w wr w2 : World} {m m2 : List UInt8} (h : SumS N g w wr m) (hf : Fr (· = g) wr w2) (hs : St w2 g m2) : SumS N g w w2 m2 :=
  ⟨h.bel.trans (fr_below hf (fun k e => by rw [e]; exact Nat.le_of_lt h.lt) (Nat.le_of_lt h.out.lt)), h.out.fr hf (fun e => by have := h.lt; omega), hs, h.lt⟩
theorem SumS.below {N g : Nat} {w wr w2 : World} {m : List UInt8} (h : SumS N g w wr m) (hb : Below wr.heap.size wr w2) : SumS N g w w2 m :=
  ⟨h.bel.trans (hb.mono (Nat.le_of_lt h.out.lt)), h.out.below hb h.out.lt, h.st.below hb, h.lt⟩
theorem SumS.alloc {N g : Nat} {w wr : World} {m : List UInt8} (h : SumS N g w wr m) (o : Obj) : SumS N g w (wr.alloc o) m := h.below ((Below.refl _ _).alloc (Nat.le_refl _) o)
theorem write_one (g : Nat) (m : List UInt8) (A : Option Addr) (c : Nat) (y : UInt8) (w : World) (h : St w g m) (hx : Lft (· = g) w A 1 c [y]) (hb : m.length + 1 ≤ 4611686018427387904) :
    Calls Try.prog 84 #[.pointer (some ⟨g, 0, none⟩), .slice A 1 c] w fun e w' => e = .returned (.int .i64 1) ∧ St w' g (m ++ [y]) ∧ Fr (· = g) w w' := write_state g m A 1 c [y] w h rfl (fun _ => hx) hb
theorem splice_bvs (a y : List UInt8) (k : Nat) : splice (bvs a) k (bvs y) = bvs (splice a k y) := by
  unfold splice bvs
  simp [List.map_take, List.map_drop]
set_option maxRecDepth 100000 in
set_option maxHeartbeats 4000000 in
theorem sum_state (g : Nat) (m : List UInt8) (w : World) (h : St w g m) (hb : m.length ≤ 1152921504606846976) :
    Calls Try.prog 85 #[.pointer (some ⟨g, 0, none⟩)] w fun e w' => e = .returned (arr8 (shaL m)) ∧ Below w.heap.size w w' := by
  obtain ⟨b, hs, hblk⟩ := h
  have C := fun (u : World) (hu : u.cell? ⟨g, 0, none⟩ = some (.bool true)) => Lib.hid (none_no g u hu)
  have HHL := Lib.hid (hOf_length m)
  have hcl : Hid ((stC (hOf m) b (m.length % 64) m.length).length = 75) := Lib.hid (stC_length HHL.out hs.1)
  have h1 := stC_one (hOf m) b (m.length % 64) m.length
  have HF : Hid (∀ (w' : World) (g' : Nat), Blk w' g' 128 (stC (hOf m) b (m.length % 64) m.length) → St w' g' m) := Lib.hid (fun w' g' h => ⟨b, hs, h⟩)
  have hb0 : Blk (w.alloc (.cells (bvs (zb 32)).toArray 25)) g 128 (stC (hOf m) b (m.length % 64) m.length) := hblk.alloc _
  have hc0 := Lib.hid (hb0.at0)
  have hbz : Blk (w.alloc (.cells (bvs (zb 32)).toArray 25)) w.heap.size 25 (bvs (zb 32)) := Blk.new _ _ _
  have hw0 : Below w.heap.size w (w.alloc (.cells (bvs (zb 32)).toArray 25)) := (Below.refl _ _).alloc (Nat.le_refl _) _
  have HPA : Hid ((hOf (pad m)).flatMap (be 4) = shaL m) := Lib.hid rfl
  clear hs hblk
  generalize stC (hOf m) b (m.length % 64) m.length = cs at *
  generalize shaL m = res at *
  unfold arr8
  go_enter Try.func85, Try.ntmps85
  go_upto_region 1 with fail
  generalize hW : World.alloc w _ = w0
  have h3 : Blk w0 g 128 cs ∧ Hid (w0.cell? ⟨g, 0, none⟩ = some (.bool true)) ∧ Blk w0 w.heap.size 25 (bvs (zb 32)) ∧ Below w.heap.size w w0 := by rw [← hW]; exact ⟨hb0, hc0, hbz, hw0⟩
  clear hb0 hc0 hbz hw0 hW
  obtain ⟨hb0, hc0, hbz, hw0⟩ := h3
  go_upto_region 3 with (first
    | (go_at_call 142; with_reducible refine (C _ hc0.out).out.mono ?_; rintro e w1 ⟨rfl, rfl⟩))
  have hz0 : Blk (w0.alloc (.cells Try.zeroCells128 128)) w0.heap.size 128 zst := by rw [zero128]; exact Blk.new _ _ _
  have hz1 : Blk (w0.alloc (.cells Try.zeroCells128 128)) w.heap.size 25 (bvs (zb 32)) := hbz.alloc _
  have hz2 : Below w.heap.size w (w0.alloc (.cells Try.zeroCells128 128)) := hw0.alloc (Nat.le_of_lt hbz.lt) _
  refine wp_region_lit ?_
  refine wpList_yield rfl _ (exec_move _ rfl) ?_
  simp only [Act.put, Act.eval, Array.getD_eq_getD_getElem?, List.getElem?_toArray, List.getElem?_cons_succ, List.getElem?_cons_zero, Option.getD_some, List.setIfInBounds_toArray, List.set_cons_zero, List.set_cons_succ]
  refine wpList_yield rfl _ (exec_nilck _ rfl _ rfl) ?_
  simp only [Act.put, List.setIfInBounds_toArray, List.set_cons_zero, List.set_cons_succ]
  refine wpList_yield rfl _ (exec_load_agg at128 (.tmp 18) rfl g 128 cs rfl hb0 hcl.out) ?_
  simp only [Act.put, List.setIfInBounds_toArray, List.set_cons_zero, List.set_cons_succ]
  refine wpList_plain rfl fun K hK => ?_; go_simp
  refine hK _ _ ?_; clear hK
  (try simp only [Act.put, List.setIfInBounds_toArray, List.set_cons_zero, List.set_cons_succ])
  refine wpList_store_at at128.i rfl (.tmp 3) (.tmp 19) rfl w0.heap.size 0 128 zst cs rfl rfl hz0 hcl.out (by rw [zst_length]; exact Nat.le_refl 75) h1 ?_
  intro w2 hb2 hg2 hs2
  (try simp only [Act.put, List.setIfInBounds_toArray, List.set_cons_zero, List.set_cons_succ])
  refine wpList_nil ?_
  rw [splice_all _ _ (by rw [zst_length, hcl.out])] at hb2
  have hlt0 := hbz.lt
  have s2 : SumS w.heap.size w0.heap.size w w2 m := ⟨hz2.grown hg2 hz2.size (by intro k hk; cases hk; omega), hz1.grown hg2 (by simp; omega), HF.out _ _ hb2, hlt0⟩
  clear HF hz0 hz1 hz2 hb2 hg2 hs2 hb0 hc0 hbz hw0 C HHL
  generalize w0.heap.size = G at *
  obtain ⟨b2, hsb2, hblk2⟩ := s2.st
  have hA := Lib.hid (hblk2.atA (hOf_length m) hsb2.1)
  clear hblk2 hsb2 b2
  obtain ⟨T, hT⟩ : ∃ T, 8 * m.length = T := ⟨_, rfl⟩
  have HT := Lib.hid hT
  have HTB : Hid ((m.length : Int) * 8 = (T : Int)) := Lib.hid (by omega)
  have hTb : T ≤ 9223372036854775808 := by omega
  clear hT
  go_upto_region 4 with fail
  refine wp_region_lit ?_
  refine wpList_yield rfl _ (exec_f4 _ rfl G rfl) ?_
  simp only [Act.put, List.setIfInBounds_toArray, List.set_cons_zero, List.set_cons_succ]
  refine wpList_yield rfl _ (exec_load3 _ rfl _ _ rfl hA.out) ?_
  simp only [Act.put, List.setIfInBounds_toArray, List.set_cons_zero, List.set_cons_succ]
  refine wpList_yield rfl _ (exec_conv Try.underlying3 Try.underlying175 _ rfl .i64 (m.length : Int) (m.length : Int) rfl rfl (by rw [IntKind.wrap_u64]; omega)) ?_
  simp only [Act.put, List.setIfInBounds_toArray, List.set_cons_zero, List.set_cons_succ]
  refine wpList_yield rfl _ (exec_umul _ _ rfl (m.length : Int) 8 (T : Int) rfl rfl HTB.out (by have := HTB.out; omega)) ?_
  simp only [Act.put, List.setIfInBounds_toArray, List.set_cons_zero, List.set_cons_succ]
  refine wpList_yield rfl _ (exec_assign _ rfl) ?_
  simp only [Act.put, Act.eval, Array.getD_eq_getD_getElem?, List.getElem?_toArray, List.getElem?_cons_succ, List.getElem?_cons_zero, Option.getD_some, List.setIfInBounds_toArray, List.set_cons_zero, List.set_cons_succ]
  refine wpList_nil ?_
  go_upto_region 5 with fail
  have s3 := s2.alloc (.cells #[.int .u8 128] 5)
  have hG2 := s2.st.lt
  refine wp_region_lit ?_
  refine wpList_plain rfl fun K hK => ?_; go_simp
  refine hK _ _ ?_; clear hK
  (try simp only [Act.put, List.setIfInBounds_toArray, List.set_cons_zero, List.set_cons_succ])
  refine wpList_plain rfl fun K hK => ?_; go_simp
  with_reducible refine (write_one G m (some ⟨w2.heap.size, 0, none⟩) 1 128 _ s3.st (one_lft 128 _ rfl hG2) (by omega)).mono ?_
  rintro e w4 ⟨rfl, hs4, hf4⟩
  refine hK _ _ ?_; clear hK
  (try simp only [Act.put, List.setIfInBounds_toArray, List.set_cons_zero, List.set_cons_succ])
  refine wpList_nil ?_
  have s4 : SumS w.heap.size G w w4 (padTo m 0) := s3.write hf4 hs4
  clear s2 s3 hs4 hf4 hA hG2
  go_wp2_with fail
  have hz64 : padz m.length < 64 := padz_lt _
  go_loopw [26] (fun _ wr => ∃ j : Nat, j ≤ padz m.length ∧ SumS w.heap.size G w wr (padTo m j)) (fun _ wr => m.length + 65 - allOf wr G)
  case atStart => exact ⟨0, by omega, s4⟩
  case round =>
    clear s4
    obtain ⟨j, hj, s4⟩ := hrel
    obtain ⟨b3, hsb3, hblk3⟩ := s4.st
    obtain ⟨r, hr1⟩ : ∃ r, (m.length + 1 + j) % 64 = r := ⟨_, rfl⟩
    have hst := padTo_stop m.length j hj
    rw [hr1] at hst
    have hcn := hblk3.atN (hOf_length _) hsb3.1
    rw [padTo_length, hr1] at hcn
    have HC := Lib.hid hcn
    have hall := Lib.hid (s4.st.all)
    rw [padTo_length] at hall
    have hG4 := s4.st.lt
    clear hblk3 hsb3 b3 hr1 hcn
    by_cases hjl : j = padz m.length
    · obtain rfl : r = 56 := hst.2 hjl
      subst hjl
      clear hst hj
      obtain ⟨hi, hhi⟩ : ∃ hi, T / 4294967296 = hi := ⟨_, rfl⟩
      obtain ⟨lo, hlo⟩ : ∃ lo, T % 4294967296 = lo := ⟨_, rfl⟩
      have hhib : hi < 4294967296 := by omega
      have hlob : lo < 4294967296 := by omega
      have HHI : Hid (IntKind.i64.wrap ((T / 4294967296 : Nat) : Int) = (hi : Int)) := Lib.hid (by rw [hhi]; exact IntWalk.i64_in _ (by omega))
      have HLO : Hid (T &&& 4294967295 = lo) := Lib.hid (by rw [and_low]; exact hlo)
      have HLW : Hid (IntKind.i64.wrap (lo : Int) = (lo : Int)) := Lib.hid (IntWalk.i64_in _ (by omega))
      have HPAD : Hid ((padTo m (padz m.length) ++ be 4 hi) ++ be 4 lo = pad m) := Lib.hid (by rw [List.append_assoc, ← hhi, ← hlo, ← be_split, ← HT.out]; exact padTo_end m)
      have HPL : Hid ((padTo m (padz m.length)).length = m.length + 1 + padz m.length) := Lib.hid (padTo_length _ _)
      have P1 := fun u => Lib.hid (put32_be hi u hhib)
      have P2 := fun u => Lib.hid (put32_be lo u hlob)
      clear hhi hlo
      generalize padTo m (padz m.length) = q at *
      go_upto_region 8 with (first
        | ((with_reducible refine at_dst 27 ?_); refine wpList_yield rfl _ (exec_load3 _ rfl _ _ rfl HC.out) ?_))
      go_upto_region 10 with (first
        | ((with_reducible refine at_dst 33 ?_); refine wpList_yield rfl _ (exec_ushr _ _ rfl T 32 _ rfl rfl (by decide) 4294967296 rfl) ?_)
        | ((with_reducible refine at_dst 34 ?_); refine wpList_yield rfl _ (exec_conv Try.underlying175 Try.underlying2 _ rfl .u64 _ (hi : Int) rfl rfl HHI.out) ?_)
        | ((with_reducible refine at_dst 40 ?_); refine wpList_yield rfl _ (exec_uand _ _ rfl T 4294967295 lo rfl rfl (by omega) (by decide) HLO.out) ?_)
        | ((with_reducible refine at_dst 41 ?_); refine wpList_yield rfl _ (exec_conv Try.underlying175 Try.underlying2 _ rfl .u64 (lo : Int) (lo : Int) rfl rfl HLW.out) ?_)
        | (go_at_call 37; with_reducible refine (P1 _).out.mono ?_; rintro e w5 ⟨A5, c5, rfl, ho5, hw5⟩)
        | (go_at_call 37; with_reducible refine (P2 _).out.mono ?_; rintro e w6 ⟨A6, c6, rfl, ho6, hw6⟩))
      have s6 : SumS w.heap.size G w w6 q := (s4.below hw5).below hw6
      have hl5 : Lft (· = G) w6 A5 4 c5 (be 4 hi) := (ho5.lft hG4).fr (S := (· = G)) (T := (· = G)) (Fr.of_below hw6) (fun k e => e)
      have hl6 : Lft (· = G) w6 A6 4 c6 (be 4 lo) := ho6.lft (Nat.lt_of_lt_of_le hG4 hw5.size)
      clear s4 ho5 ho6 hw5 hw6 hG4 hall
      have hq1 : q.length + 4 ≤ 4611686018427387904 := by rw [HPL.out]; omega
      have hq2 : (q ++ be 4 hi).length + 4 ≤ 4611686018427387904 := by rw [List.length_append, be_length, HPL.out]; omega
      go_upto_region 12 with (first
        | (go_at_call 84; with_reducible refine (write_state G q A5 4 c5 (be 4 hi) w6 s6.st (be_length _ _) (fun _ => hl5) hq1).mono ?_; rintro e w7 ⟨rfl, hs7, hf7⟩)
        | (go_at_call 84; with_reducible refine (write_state G (q ++ be 4 hi) A6 4 c6 (be 4 lo) w7 hs7 (be_length _ _) (fun _ => hl6.fr hf7 (fun k e => e)) hq2).mono ?_; rintro e w8 ⟨rfl, hs8, hf8⟩))
      have s8 : SumS w.heap.size G w w8 (pad m) := by
        rw [← HPAD.out]
        exact (s6.write hf7 hs7).write hf8 hs8
      clear s6 hl5 hl6 hs7 hf7 hs8 hf8 hq1 hq2 HPAD HPL P1 P2
      generalize pad m = P at *
      have t1 := s8.alloc (.cells (bvs (zb 32)).toArray 25)
      have t2 : Blk (w8.alloc (.cells (bvs (zb 32)).toArray 25)) w8.heap.size 25 (bvs (outW (hOf P) 0)) := by rw [outW_zero]; exact Blk.new _ _ _
      have hG8 := s8.out.lt
      clear s8
      go_upto_region 13 with fail
      generalize hW : World.alloc w8 _ = w9
      have h3 : SumS w.heap.size G w w9 P ∧ Blk w9 w8.heap.size 25 (bvs (outW (hOf P) 0)) := by rw [← hW]; exact ⟨t1, t2⟩
      clear hW t1 t2
      obtain ⟨t1, t2⟩ := h3
      generalize w8.heap.size = G2 at *
      have hHL := hOf_length P
      have hHT := hOf_lt P
      obtain ⟨b4, hsb4, hblk4⟩ := t1.st
      have hdh : Hid (((stC (hOf P) b4 (P.length % 64) P.length).drop 1).take 8 = wvs (hOf P)) := Lib.hid (stC_h hHL)
      have t3 := t1.bel
      have t4 := t1.out
      clear t1 hsb4
      generalize hOf P = H at *
      have HHL := Lib.hid hHL
      refine wp_region_lit ?_
      refine wpList_yield rfl _ (exec_f1 _ rfl G rfl) ?_
      simp only [Act.put, List.setIfInBounds_toArray, List.set_cons_zero, List.set_cons_succ]
      refine wpList_yield rfl _ (exec_load_at at96 _ rfl G 1 128 _ (wvs H) rfl hblk4 hdh.out (by rw [wvs_length]; exact HHL.out)) ?_
      simp only [Act.put, List.setIfInBounds_toArray, List.set_cons_zero, List.set_cons_succ]
      refine wpList_yield rfl _ (exec_move _ rfl) ?_
      simp only [Act.put, Act.eval, Array.getD_eq_getD_getElem?, List.getElem?_toArray, List.getElem?_cons_succ, List.getElem?_cons_zero, Option.getD_some, List.setIfInBounds_toArray, List.set_cons_zero, List.set_cons_succ]
      refine wpList_nil ?_
      have hHlt : Hid (∀ d, d < 8 → H[d]? = some (H.getD d 0)) := Lib.hid (fun d hd => getD_some H d (by rw [HHL.out]; exact hd))
      have hH32 : Hid (∀ d, H.getD d 0 < 4294967296) := Lib.hid (fun d => ext_get_lt H d hHT)
      have hOS := Lib.hid (fun (i : Nat) (hi : i < 8) => outW_step H i hHL hi)
      have hOL := Lib.hid (fun (i : Nat) (hi : i ≤ 8) => outW_length H i hHL hi)
      have hOE : Hid (outW H 8 = res) := Lib.hid (by rw [outW_end H hHL]; exact HPA.out)
      clear hdh hblk4 hHL HPA hHT
      go_wp2_with fail
      go_loopw [51] (fun v wr => ∃ i : Nat, i ≤ 8 ∧ v = .int .i64 (i : Int) ∧ Blk wr G2 25 (bvs (outW H i)) ∧ Blk wr w.heap.size 25 (bvs (zb 32)) ∧ Below w.heap.size w wr) (fun v _ => 8 - (intOf v).toNat)
      case atStart => exact ⟨0, by omega, by go_num, t2, t4, t3⟩
      case round =>
        clear t2 t3 t4
        obtain ⟨i, hi8, rfl, t2, t4, t3⟩ := hrel
        by_cases hil : i < 8
        · have hiz : (i : Int) < 8 := by omega
          obtain ⟨x, hx⟩ : ∃ x, x = H.getD i 0 := ⟨_, rfl⟩
          have ex : Hid (H[i]? = some x) := Lib.hid (by rw [hx]; exact hHlt.out i hil)
          have hx32 : x < 4294967296 := by rw [hx]; exact hH32.out i
          have HS : Hid (splice (outW H i) (4 * i) (be 4 x) = outW H (i + 1)) := Lib.hid (by rw [hx]; exact hOS.out i hil)
          have HQL := Lib.hid (hOL.out i hi8)
          have HXW : Hid (IntKind.i64.wrap (x : Int) = (x : Int)) := Lib.hid (IntWalk.i64_in _ (by omega))
          have P3 := fun u => Lib.hid (put32_be x u hx32)
          have hG2 := t2.lt
          clear hx
          go_upto_region 15 with fail
          refine wp_region_lit ?_
          refine wpList_yield rfl _ (exec_move _ rfl) ?_
          simp only [Act.put, Act.eval, Array.getD_eq_getD_getElem?, List.getElem?_toArray, List.getElem?_cons_succ, List.getElem?_cons_zero, Option.getD_some, List.setIfInBounds_toArray, List.set_cons_zero, List.set_cons_succ]
          refine wpList_yield rfl _ (exec_index_agg _ _ rfl H i .i64 x rfl rfl HHL.out ex.out) ?_
          simp only [Act.put, List.setIfInBounds_toArray, List.set_cons_zero, List.set_cons_succ]
          refine wpList_yield rfl _ (exec_assign _ rfl) ?_
          simp only [Act.put, Act.eval, Array.getD_eq_getD_getElem?, List.getElem?_toArray, List.getElem?_cons_succ, List.getElem?_cons_zero, Option.getD_some, List.setIfInBounds_toArray, List.set_cons_zero, List.set_cons_succ]
          refine wpList_yield rfl _ (exec_assign _ rfl) ?_
          simp only [Act.put, Act.eval, Array.getD_eq_getD_getElem?, List.getElem?_toArray, List.getElem?_cons_succ, List.getElem?_cons_zero, Option.getD_some, List.setIfInBounds_toArray, List.set_cons_zero, List.set_cons_succ]
          refine wpList_nil ?_
          go_upto_region 17 with (first
            | ((with_reducible refine at_dst 57 ?_); refine wpList_yield rfl _ (exec_conv Try.underlying94 Try.underlying2 _ rfl .u32 (x : Int) (x : Int) rfl rfl HXW.out) ?_)
            | (go_at_call 37; with_reducible refine (P3 _).out.mono ?_; rintro e w10 ⟨A7, c7, rfl, ho7, hw7⟩))
          obtain ⟨A8, c8, e8, h8, h9, hrd⟩ := ho7.rd
          injection e8 with e9 e10 e11
          subst e9; subst e11
          clear e10 h8 h9
          have t5 := t2.below hw7 hG2
          refine wp_region_lit ?_
          refine wpList_yield rfl _ (exec_move _ rfl) ?_
          simp only [Act.put, Act.eval, Array.getD_eq_getD_getElem?, List.getElem?_toArray, List.getElem?_cons_succ, List.getElem?_cons_zero, Option.getD_some, List.setIfInBounds_toArray, List.set_cons_zero, List.set_cons_succ]
          refine wpList_yield rfl _ (exec_imul _ _ rfl _ _ (((4 * i : Nat) : Int)) rfl rfl (by omega) (by omega)) ?_
          simp only [Act.put, List.setIfInBounds_toArray, List.set_cons_zero, List.set_cons_succ]
          refine wpList_yield rfl _ (exec_arr_from ia25 _ _ rfl G2 0 (4 * i) _ rfl rfl (by omega)) ?_
          simp only [Act.put, List.setIfInBounds_toArray, List.set_cons_zero, List.set_cons_succ]
          refine wpList_yield rfl _ (exec_move _ rfl) ?_
          simp only [Act.put, Act.eval, Array.getD_eq_getD_getElem?, List.getElem?_toArray, List.getElem?_cons_succ, List.getElem?_cons_zero, Option.getD_some, List.setIfInBounds_toArray, List.set_cons_zero, List.set_cons_succ]
          refine wpList_copy_mid bt rfl (.tmp 63) (.tmp 64) rfl G2 (0 + 4 * i) (32 - 4 * i) (32 - 4 * i) A7 4 c7 rfl rfl 25 (bvs (outW H i)) (be 4 x) t5 hrd (be_length _ _) (by rw [bvs_length, HQL.out]; omega) ?_
          intro w11 hb11 hg11 hs11
          (try simp only [Act.put, List.setIfInBounds_toArray, List.set_cons_zero, List.set_cons_succ])
          refine wpList_nil ?_
          rw [List.take_of_length_le (by rw [be_length]; omega), splice_bvs, Nat.zero_add, HS.out] at hb11
          have t6 : Below w.heap.size w w11 := (t3.trans (hw7.mono (Nat.le_of_lt t4.lt))).grown hg11 (by have := t4.lt; have := hw7.size; omega) (by intro k hk; cases hk; omega)
          have t7 := (t4.below hw7 t4.lt).grown hg11 (by simp; omega)
          go_wp2_with fail
          go_roundw
          case rel => exact ⟨i + 1, by omega, by go_num, hb11, t7, t6⟩
          case measure => simp only [intOf]; omega
        · obtain rfl : i = 8 := by omega
          rw [hOE.out] at t2
          have hrl : Hid (res.length = 32) := Lib.hid (by rw [← hOE.out]; exact hOL.out 8 (Nat.le_refl _))
          clear hOE hOL hOS hHlt hH32
          go_upto_region 19 with fail
          refine wp_region_lit ?_
          refine wpList_yield rfl _ (exec_load_agg at25w (.tmp 9) rfl _ 25 (bvs res) rfl t2 (by rw [bvs_length]; exact hrl.out)) ?_
          simp only [Act.put, List.setIfInBounds_toArray, List.set_cons_zero, List.set_cons_succ]
          refine wpList_store_at at25w.i rfl (.tmp 2) (.tmp 67) rfl w.heap.size 0 25 (bvs (zb 32)) (bvs res) rfl rfl t4 (by rw [bvs_length]; exact hrl.out) (by rw [bvs_length, zb_length]; omega) (bvs_one _) ?_
          intro w1 hb1 hg1 hs1
          (try simp only [Act.put, List.setIfInBounds_toArray, List.set_cons_zero, List.set_cons_succ])
          refine wpList_nil ?_
          go_wp2_with fail
          (try simp only [Exit.inBlock, Exit.then])
          rw [splice_all _ _ (by rw [bvs_length, bvs_length, zb_length]; exact hrl.out.symm)] at hb1
          refine bodyPost_ret (ret_cell rfl at25w _ _ w.heap.size 25 (bvs res) rfl hb1 (by rw [bvs_length]; exact hrl.out)) rfl ?_
          exact ⟨rfl, t3.grown hg1 t3.size (by intro k hk; cases hk; omega)⟩
    · have hrne : ((r : Int) == 56) = false := by
        have h := fun e => hjl (hst.1 e)
        simp; omega
      have t4 := s4.alloc (.cells #[.int .u8 0] 5)
      have hbd : (padTo m j).length + 1 ≤ 4611686018427387904 := by rw [padTo_length]; omega
      clear hst
      go_wp2_with (first
        | ((with_reducible refine at_dst 27 ?_); refine wpList_yield rfl _ (exec_load3 _ rfl _ _ rfl HC.out) ?_)
        | (go_at_call 84; with_reducible refine (write_one G (padTo m j) (some ⟨wr.heap.size, 0, none⟩) 1 0 _ t4.st (one_lft 0 _ rfl hG4) hbd).mono ?_; rintro e w5 ⟨rfl, hs5, hf5⟩))
      have s5 : SumS w.heap.size G w w5 (padTo m (j + 1)) := by
        rw [← padTo_succ]
        exact t4.write hf5 hs5
      go_roundw
      case rel => exact ⟨j + 1, by omega, s5⟩
      case measure =>
        have e1 := s5.st.all
        have e2 := hall.out
        rw [padTo_length] at e1
        omega
end Go.Proofs.Ytehbahobkgoapaa
namespace Go.Proofs.Ytehbahobkgoapaa
open Go Go.RowKit Go.ChangeShapes Go.WideShapes Go.ChangeAt
set_option linter.unusedSimpArgs false
set_option linter.unusedVariables false
section
variable {P : Program} (w : World)
end
section
variable {P : Program} {H : Type} {enc : TypeId × Value → H} {W : World} {base : Nat}
end
theorem ab25 : AB Try.prog 25 32 := ⟨⟨5, Try.underlying25, Try.underlying5, by kernel_rfl⟩, by kernel_rfl⟩
theorem lent_rd0 {w : World} {g : Nat} {l : List UInt8} (h : Blk w g 5 (bvs (lentAll l))) : Rd w (some ⟨g, 0, none⟩) (bvs l) := by
  unfold lentAll at h
  rw [bvs_append] at h
  exact Rd.of_blk0 h
end Go.Proofs.Ytehbahobkgoapaa
namespace Go.Proofs.Ytehbahobkgoapaa
open Go Go.RowKit
set_option linter.unusedSimpArgs false
set_option linter.unusedVariables false
theorem exec_neq_same {P : Program} {w : World} {a : Act} {o : Oper} {T T' n : Nat} (B : AB P T n) (x y : Operand) (ho : o.op = .binOp .neq T x y T') (xs : List UInt8) (ex : a.eval x = .agg (bvs xs).toArray) (ey : a.eval y = .agg (bvs xs).toArray) (hx : xs.length = n) :
    (execOp a.eval o).run P w = .ok (.value (.bool false)) w := by
  have h := exec_neq_arr (w := w) B x y ho xs xs ex ey hx hx
  rw [h]
  simp
end Go.Proofs.Ytehbahobkgoapaa
namespace Go.Proofs.Ytehbahobkgoapaa
open Go Go.RowKit
set_option linter.unusedSimpArgs false
set_option linter.unusedVariables false
section
variable {P : Program} {w : World} {ops : Array Oper} {o : Oper} {a : Act} {Q : Exit → Act → World → Prop}
theorem wp_append_bytes {T E S : TypeId} (B : BT P T E S) {K : Act → World → Prop} (s x : Operand) (ho : o.op = .call { callee := .builtin .append, args := #[s, x], argTypes := #[T, T] })
    (base : Nat) (v : Value) (l : List UInt8) (hs : a.eval s = v) (hown : OwnB w base E v l) (A : Option Addr) (m c : Nat) (y : List UInt8) (hx : a.eval x = .slice A m c) (hy : y.length = m) (hr : Rd w A (bvs y))
    (hbytes : l.length + m ≤ 140737488355328) (hbase : base ≤ w.heap.size)
    (h : ∀ v' w', OwnB w' base E v' (l ++ y) → w.grownBy w' v.ownBlock → (v'.ownBlock = v.ownBlock ∨ v'.ownBlock = some w.heap.size) → K (a.put o.dst v') w') : o.wp P a w K Q := by
  obtain ⟨v', w', hrun, h1, h2, h3⟩ := run_append_bytes B o.type base v l hown A m c y hy hr hbytes hbase
  unfold Oper.wp execOp
  simp only [ho, resolve, invoke, builtin, Sem.run_bind, Sem.run_pure, Result.andThen_ok, List.map_toArray, List.map_cons, List.map_nil, hs, hx, hrun]
  exact h v' w' h1 h2 h3
end
end Go.Proofs.Ytehbahobkgoapaa
namespace Go.Proofs.Ytehbahobkgoapaa
open Go Go.RowKit
set_option linter.unusedSimpArgs false
set_option linter.unusedVariables false
theorem OwnB.fr {S : Nat → Prop} {w w' : World} {base E : Nat} {v : Value} {l : List UInt8} (h : OwnB w base E v l) (hf : Fr S w w') (hv : ∀ k, v.ownBlock = some k → ¬ S k) : OwnB w' base E v l := by
  rcases h with h | ⟨g, sp, e, hg, hm, hb⟩
  · exact .inl h
  · exact .inr ⟨g, sp, e, hg, hm, hb.fr hf (hv g (by rw [e]; rfl))⟩
end Go.Proofs.Ytehbahobkgoapaa
namespace Go.Proofs.Ytehbahobkgoapaa
open Go Go.RowKit
set_option linter.unusedSimpArgs false
set_option linter.unusedVariables false
theorem Fr.cell {S : Nat → Prop} {a b : World} {p : Addr} {u : Value} (h : Fr S a b) (hc : a.cell? p = some u) (hp : ¬ S p.block) : b.cell? p = some u := by
  have hlt := World.block_lt_of_cell? a _ hc
  rw [World.cell?_of_block (h.block _ hlt hp)]
  exact hc
end Go.Proofs.Ytehbahobkgoapaa
namespace Go.Proofs.Ytehbahobkgoapaa
open Go Go.RowKit
set_option linter.unusedSimpArgs false
set_option linter.unusedVariables false
theorem bthen {B : Nat} {a b c : World} (h : Below B a b) (k : Below b.heap.size b c) (hB : B ≤ b.heap.size) : Below B a c := h.trans (k.mono hB)
end Go.Proofs.Ytehbahobkgoapaa
namespace Go.Proofs.Ytehbahobkgoapaa
open Go Go.RowKit Go.ChangeShapes Go.WideShapes Go.ChangeAt
set_option linter.unusedSimpArgs false
set_option linter.unusedVariables false
section
variable {H : Type} {enc : TypeId × Value → H} {P : Program} {W : World} {base : Nat}
/-- What a slice's data say of its room. -/
def RoomOf (d : DataW H) (c : Nat) : Prop := (d = .nil ∧ c = 0) ∨ ∃ es sp, d = .slice es sp ∧ es.length + sp.length = c
theorem bytes_of_trod {T E S : TypeId} (B : BT P T E S) (hc : P.cellsOf E = 1) {fuel : Nat} {cs : List Value} {x : DataW H × List MemPlace} (hf : DataW.trod enc P W 0 (fun _ => true) true fuel T cs = some x) :
    ∃ A n c l, cs = [.slice A n c] ∧ l.length = n ∧ n ≤ c ∧ Rd W A (bvs l) ∧ RoomOf x.1 c := by
  rcases open_ints B.t B.e hc hf with ⟨hcs, hx⟩ | ⟨x, l, cap, zs, hcs, _, hl, hm, hz, hx, hcell, hwz⟩
  · subst hcs; subst hx
    exact ⟨none, 0, 0, [], rfl, rfl, Nat.le_refl _, Rd.nil _ _, .inl ⟨rfl, rfl⟩⟩
  · subst hcs; subst hx
    simp only [if_true] at hz
    refine ⟨some x, l, cap, (zs.take l).map fun z => UInt8.ofNat z.toNat, rfl, by simp; omega, hl, fun _ => ⟨x, rfl, fun j u hu => ?_⟩, .inr ⟨_, _, rfl, by simp [lits]; omega⟩⟩
    have hj : j < l := by
      have := (List.getElem?_eq_some_iff.1 hu).1
      simp [bvs] at this; omega
    have hjz : j < zs.length := by omega
    rw [hcell j hjz]
    simp only [bvs, List.map_map, List.getElem?_map, List.getElem?_take_of_lt hj, List.getElem?_eq_getElem hjz, Option.map_some, Function.comp] at hu
    rw [← hu, ← byte_of_int (hwz _ (List.getElem_mem hjz))]
    simp [hjz]
end
end Go.Proofs.Ytehbahobkgoapaa
namespace Go.Proofs.Ytehbahobkgoapaa
open Go Go.RowKit Go.ChangeShapes Go.WideShapes Go.ChangeAt
set_option linter.unusedSimpArgs false
set_option linter.unusedVariables false
/-- A call of a state: its kind, the state's number, another's, a text. -/
structure SAct where
  k : UInt8
  on : UInt8
  tq : UInt8
  A : Option Addr
  n : Nat
  c : Nat
  l : List UInt8
instance : Inhabited SAct := ⟨⟨0, 0, 0, none, 0, 0, []⟩⟩
def SAct.cs (a : SAct) : List Value := [bv a.k, bv a.on, bv a.tq, .slice a.A a.n a.c]
structure SAct.Ok (w : World) (a : SAct) : Prop where
  len : a.l.length = a.n
  cap : a.n ≤ a.c
  rd : Rd w a.A (bvs a.l)
structure SActs (w : World) (A : Option Addr) (n : Nat) (xs : List SAct) : Prop where
  len : xs.length = n
  max : n ≤ 9223372036854775807
  at_ : ∀ i (h : i < xs.length), ∃ ad, A = some ad ∧ Rd w (some (ad.add (i * 4))) xs[i].cs
  ok : ∀ a ∈ xs, a.Ok w
theorem SAct.Ok.below {w w' : World} {a : SAct} (h : a.Ok w) (hb : Below w.heap.size w w') : a.Ok w' := ⟨h.len, h.cap, h.rd.below hb⟩
theorem SActs.below {w w' : World} {A : Option Addr} {n : Nat} {xs : List SAct} (h : SActs w A n xs) (hb : Below w.heap.size w w') : SActs w' A n xs :=
  ⟨h.len, h.max, fun i hi => by obtain ⟨ad, e, hr⟩ := h.at_ i hi; exact ⟨ad, e, hr.below hb⟩, fun a ha => (h.ok a ha).below hb⟩
section
variable {H : Type} {enc : TypeId × Value → H} {P : Program} {W : World} {base : Nat}
theorem room_bulk {d : DataW H} {c : Nat} (h : RoomOf d c) : c ≤ Rows.uptoBulk d := by
  rcases h with ⟨_, rfl⟩ | ⟨es, sp, rfl, h⟩
  · omega
  · have := bulks.slice_le es sp; omega
theorem parts_bulk (D : Nat → DataW H) (f : Nat → SAct) (R : List Nat) (h : ∀ i ∈ R, (f i).c ≤ Rows.uptoBulk (D i)) : ((R.map f).map (·.c)).sum ≤ Rows.uptoBulkAll (R.map D) := by
  induction R with
  | nil => simp [Rows.uptoBulkAll]
  | cons r R ih =>
    have h1 := ih fun i hi => h i (List.mem_cons_of_mem _ hi)
    have h2 := h r List.mem_cons_self
    simp only [List.map_cons, List.sum_cons, Rows.uptoBulkAll]
    omega
theorem open_sacts {T E T' E' S' : TypeId} {f0 f1 f2 f3 : Field} (B : BT P T' E' S') (hc' : P.cellsOf E' = 1) (ht : P.underlying T = some (.slice E)) (he : P.underlying E = some (.struct #[f0, f1, f2, f3])) (cE : P.cellsOf E = 4)
    (o0 : f0.offset = 0) (o1 : f1.offset = 1) (o2 : f2.offset = 2) (o3 : f3.offset = 3) (c0 : P.cellsOf f0.type = 1) (c1 : P.cellsOf f1.type = 1) (c2 : P.cellsOf f2.type = 1) (c3 : P.cellsOf f3.type = 1)
    (u0 : P.underlying f0.type = some (.int .u8)) (u1 : P.underlying f1.type = some (.int .u8)) (u2 : P.underlying f2.type = some (.int .u8)) (u3 : f3.type = T')
    {v : Value} {d : DataW H} {p : List MemPlace} (hv : Value.okWide P W .any base T v) (h : DataW.Trod enc P W 0 (fun _ => true) true T v d p) :
    ∃ A n c xs, v = .slice A n c ∧ SActs W A n xs ∧ (xs.map (·.c)).sum ≤ Rows.uptoBulk d := by
  obtain ⟨A, n, c, rfl⟩ := okWide_slice ht hv
  obtain ⟨fuel, hf⟩ := h
  rcases Deep.open_slice ht hf with ⟨hcs, hx⟩ | ⟨a, len, cap, m, k, D, Pl, hcs, _, hl, hm, hmm, hx, hi⟩
  · simp [Value.cells] at hcs
    obtain ⟨rfl, rfl, rfl⟩ := hcs
    exact ⟨none, 0, 0, [], rfl, ⟨rfl, by omega, fun i hi => by simp at hi, by simp⟩, by simp⟩
  · simp [Value.cells] at hcs
    obtain ⟨rfl, rfl, rfl⟩ := hcs
    simp only [if_true] at hmm
    subst m
    rw [cE] at hi
    have each : ∀ i, i < n → ∃ q : SAct, Rd W (some (a.add (i * 4))) q.cs ∧ q.Ok W ∧ q.c ≤ Rows.uptoBulk (D i) := by
      intro i hin
      obtain ⟨cs', h1, h2⟩ := hi i (by omega)
      obtain ⟨_, hlen, h3⟩ := World.cells?_some h1
      obtain ⟨y0, y1, y2, y3, fu, hD, _, t0, t1, t2, t3⟩ := Joins.trod_struct4 he h2
      rw [o0, c0] at t0
      rw [o1, c1] at t1
      rw [o2, c2] at t2
      rw [o3, c3, u3] at t3
      obtain ⟨z0, e0, _, w0⟩ := DataW.trod_int u0 t0
      obtain ⟨z1, e1, _, w1⟩ := DataW.trod_int u1 t1
      obtain ⟨z2, e2, _, w2⟩ := DataW.trod_int u2 t2
      obtain ⟨A3, n3, c3', l3, e3, hl3, hc3, hr3, hroom⟩ := bytes_of_trod B hc' t3
      rw [byte_of_int w0] at e0
      rw [byte_of_int w1] at e1
      rw [byte_of_int w2] at e2
      have ecs : cs' = (⟨UInt8.ofNat z0.toNat, UInt8.ofNat z1.toNat, UInt8.ofNat z2.toNat, A3, n3, c3', l3⟩ : SAct).cs := by
        match cs', hlen with
        | [x0, x1, x2, x3], _ =>
          simp at e0 e1 e2 e3
          simp [SAct.cs, e0, e1, e2, e3]
      refine ⟨⟨UInt8.ofNat z0.toNat, UInt8.ofNat z1.toNat, UInt8.ofNat z2.toNat, A3, n3, c3', l3⟩, fun _ => ⟨_, rfl, fun j u hu => ?_⟩, ⟨hl3, hc3, hr3⟩, ?_⟩
      · rw [← ecs] at hu
        have hj := (List.getElem?_eq_some_iff.1 hu).1
        rw [h3 j (by omega)]
        exact hu
      · have hb := room_bulk hroom
        simp only [Prod.mk.injEq] at hD
        rw [hD.1]
        simp only [Rows.uptoBulk, Rows.uptoBulkAll]
        show c3' ≤ _
        omega
    obtain ⟨f, hfn⟩ := Deep.choose_lt each
    refine ⟨some a, n, c, (List.range n).map f, rfl, ⟨by simp, by unfold maxLen at hm; omega, fun i hi' => ⟨a, rfl, ?_⟩, ?_⟩, ?_⟩
    · simp only [List.length_map, List.length_range] at hi'
      simpa using (hfn i hi').1
    · intro x hx'
      obtain ⟨i, hi', rfl⟩ := List.mem_map.1 hx'
      exact (hfn i (List.mem_range.1 hi')).2.1
    · simp only [Prod.mk.injEq] at hx
      rw [hx.1]
      have h1 := parts_bulk D f (List.range n) fun i hi' => (hfn i (List.mem_range.1 hi')).2.2
      have h2 := bulks.slice_elems ((List.range n).map D) ((List.range (c - n)).map fun j => D (n + j))
      omega
end
end Go.Proofs.Ytehbahobkgoapaa
namespace Go.Proofs.Ytehbahobkgoapaa
open Go Go.RowKit
set_option linter.unusedSimpArgs false
set_option linter.unusedVariables false
theorem OwnB.shape {w : World} {base E : Nat} {v : Value} {l : List UInt8} (h : OwnB w base E v l) : ∃ A n c, v = .slice A n c := by
  obtain ⟨A, c, e, _⟩ := h.rd
  exact ⟨A, _, c, e⟩
end Go.Proofs.Ytehbahobkgoapaa
namespace Go.Proofs.Ytehbahobkgoapaa
open Go Go.RowKit
set_option linter.unusedSimpArgs false
set_option linter.unusedVariables false
theorem w24 : ∃ d, Try.prog.underlying 24 = some d ∧ d.isRow = false := ⟨_, Try.underlying24, rfl⟩
theorem exec_load24 {w : World} {a : Act} {o : Oper} (x : Operand) (ho : o.op = .load 24 x) (ad : Addr) (v : Value) (hx : a.eval x = .pointer (some ad)) (hc : w.cell? ad = some v) : (execOp a.eval o).run Try.prog w = .ok (.value v) w := by
  obtain ⟨d, hu, hd⟩ := w24
  exact exec_load_one hu hd x ho ad v hx hc
end Go.Proofs.Ytehbahobkgoapaa
