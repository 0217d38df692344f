/- The walk of PathTells: it says true for every bytes, keys and places. -/
import Derived.Test.YtehbahobkgoapaaPi
import Derived.Test.YtehbahobkgoapaaHw
import Derived.Deep.Cut
import Derived.Deep.CutRange
namespace Go.Proofs.Ytehbahobkgoapaa
open Go Go.RowKit
set_option linter.unusedSimpArgs false
set_option linter.unusedVariables false

/-- The four variables of the walk. -/
structure Four (W : World) (g1 g2 gx gy : Nat) (p q x y : List UInt8) : Prop where
  p : Blk W g1 23 (bvs p)
  q : Blk W g2 23 (bvs q)
  x : Blk W gx 23 (bvs x)
  y : Blk W gy 22 (bvs y)
theorem Four.below {W W' : World} {g1 g2 gx gy : Nat} {p q x y : List UInt8} (h : Four W g1 g2 gx gy p q x y) (hb : Below W.heap.size W W') : Four W' g1 g2 gx gy p q x y :=
  ⟨h.p.below hb h.p.lt, h.q.below hb h.q.lt, h.x.below hb h.x.lt, h.y.below hb h.y.lt⟩
theorem Four.putX {W W' : World} {g1 g2 gx gy : Nat} {p q x y x' : List UInt8} (h : Four W g1 g2 gx gy p q x y) (hg : W.grownBy W' (some gx)) (hb : Blk W' gx 23 (bvs x')) (h1 : g1 ≠ gx) (h2 : g2 ≠ gx) (h3 : gy ≠ gx) : Four W' g1 g2 gx gy p q x' y :=
  ⟨h.p.grown hg (fun e => h1 (Option.some.inj e)), h.q.grown hg (fun e => h2 (Option.some.inj e)), hb, h.y.grown hg (fun e => h3 (Option.some.inj e))⟩
theorem Four.putY {W W' : World} {g1 g2 gx gy : Nat} {p q x y y' : List UInt8} (h : Four W g1 g2 gx gy p q x y) (hg : W.grownBy W' (some gy)) (hb : Blk W' gy 22 (bvs y')) (h1 : g1 ≠ gy) (h2 : g2 ≠ gy) (h3 : gx ≠ gy) : Four W' g1 g2 gx gy p q x y' :=
  ⟨h.p.grown hg (fun e => h1 (Option.some.inj e)), h.q.grown hg (fun e => h2 (Option.some.inj e)), h.x.grown hg (fun e => h3 (Option.some.inj e)), hb⟩

set_option maxRecDepth 100000 in
set_option maxHeartbeats 8000000 in
theorem path_tells (A : Option Addr) (n c : Nat) (l p q : List UInt8) (d : Int) (w : World) (hr : Rd w A (bvs l)) (hl : l.length = n) (hn : n ≤ 140737488351232) (hp : p.length = 32) (hq : q.length = 32) (hd : -9223372036854775808 ≤ d ∧ d ≤ 9223372036854775807) :
    Calls Try.prog 10 #[.slice A n c, arr8 p, arr8 q, .int .i64 d] w fun e w' => e = .returned (.bool true) ∧ Below w.heap.size w w' := by
  have HL := Lib.hid hl
  have HP := Lib.hid hp
  have HQ := Lib.hid hq
  have h2 := Two.mk' w 23 p q
  have hXl : (if l.length = 32 then l else keyZ).length = 32 := by
    split
    · assumption
    · exact keyZ_length
  have O1 := Lib.hid (fun W ad cc h1 h2 => of_any (some ad) n cc l W h1 hl hn h2)
  have O2 := Lib.hid (fun W h1 => rof_any A n c l W h1 hl)
  have hE : (if l.length = 32 then (0 : Int) else 3) = (if l.length = 32 then (0 : Int) else 3) := rfl
  generalize (if l.length = 32 then l else keyZ) = X at *
  generalize hEe : (if l.length = 32 then (0 : Int) else 3) = E at *
  have HX := Lib.hid hXl
  have B1 := Lib.hid (fun W => bytes_any p W hp)
  have SX := Lib.hid (fun W => same_any X E E W hXl rfl)
  -- bit, common, compare, under
  have T1 := Lib.hid (fun W => bit_any p d W hp hd)
  have T2 := Lib.hid (fun W => rbit_any p d W hp hd)
  have T3 := Lib.hid (fun W => common_any p q W hp hq)
  have T4 := Lib.hid (fun W => rcommon_any p q W hp hq)
  have T5 := Lib.hid (fun W => compare_any p q W hp hq)
  have T6 := Lib.hid (fun W => rkcompare_any p q W hp hq)
  have T7 := Lib.hid (fun W => under_any p q d W hp hq hd)
  have T8 := Lib.hid (fun W => runder_any p q d W hp hq hd)
  have hFl := flipK_length p d
  have F1 := Lib.hid (fun W => flip_any p d W hp hd)
  have F2 := Lib.hid (fun W => rflip_any p d W hp hd)
  have F3 := Lib.hid (fun W => same_any (flipK p d) (flipE d) (flipE d) W hFl rfl)
  have hA0l := fillK_length p d false
  have hA1l := fillK_length p d true
  have G1 := Lib.hid (fun W => first_any p d W hp hd)
  have G2 := Lib.hid (fun W => rfilled_any p d false W hp hd)
  have G3 := Lib.hid (fun W => same_any (fillK p d false) (fillE d) (fillE d) W hA0l rfl)
  have L1 := Lib.hid (fun W => last_any p d W hp hd)
  have L2 := Lib.hid (fun W => rfilled_any p d true W hp hd)
  have L3 := Lib.hid (fun W => same_any (fillK p d true) (fillE d) (fillE d) W hA1l rfl)
  have hNl := nextK_length p
  have N1 := Lib.hid (fun W => next_any p W hp)
  have N2 := Lib.hid (fun W => rnext_any p W hp)
  generalize bitZ p d = bz at *
  generalize ((comm p q : Nat) : Int) = cz at *
  generalize cmpZ (nOf p) (nOf q) = kz at *
  generalize underB p q d = ub at *
  generalize flipK p d = F at *
  generalize flipE d = fe at *
  generalize fillK p d false = A0 at *
  generalize fillK p d true = A1 at *
  generalize fillE d = ge at *
  generalize nextK p = N at *
  generalize nextB p = nb at *
  have HF := Lib.hid hFl
  have HA0 := Lib.hid hA0l
  have HA1 := Lib.hid hA1l
  have HN := Lib.hid hNl
  clear hl hp hq hXl hFl hA0l hA1l hNl hE hEe hd
  unfold arr8 at *
  go_enter Try.func10, Try.ntmps10
  go_upto_region 1 with fail
  have hB0 := h2.b
  have hp0 := h2.p
  have hq0 := h2.q
  generalize hW0 : (w.alloc (.cells (bvs p).toArray 23)).alloc (.cells (bvs q).toArray 23) = w0 at *
  clear hW0 h2
  have hr0 := hr.below hB0
  go_upto_region 2 with (go_at_call 25; refine (lent A n c l w0 hr0 HL.out hn).mono ?_; rintro e w1 ⟨rfl, hb1, hw1, -⟩)
  have hg3 := hb1.lt
  go_upto_region 3 with (first
    | (go_at_call 55; refine (O1.out w1 ⟨w0.heap.size, 0, none⟩ (n + 5) (lent_rd hb1) (by omega)).mono ?_; rintro e w2 ⟨rfl, hw2⟩)
    | ((with_reducible refine at_op (Op.store 23 (.tmp 10) (.tmp 23)) ?_); refine wpList_store_at at23'.i rfl (.tmp 10) (.tmp 23) rfl w2.heap.size 0 23 (bvs keyZ) (bvs X) rfl rfl (Blk.new w2 23 (bvs keyZ)) (by rw [bvs_length]; exact HX.out) (by rw [bvs_length]; simp [keyZ]) (bvs_one _) ?_; intro w3 hb_w3 hg_w3 hs_w3; rw [splice_keyZ _ HX.out] at hb_w3))
  have hB1 : Below w.heap.size w w1 := hB0.trans (hw1.mono hB0.size)
  have hB2 : Below w.heap.size w w2 := hB1.trans (hw2.mono hB1.size)
  obtain ⟨hB3, hS3⟩ := new_store hB2 hB2.size hg_w3
  have hp3 := (((hp0.below hw1 hp0.lt).below hw2 (hp0.below hw1 hp0.lt).lt).below hS3 ((hp0.below hw1 hp0.lt).below hw2 (hp0.below hw1 hp0.lt).lt).lt)
  have hq3 := (((hq0.below hw1 hq0.lt).below hw2 (hq0.below hw1 hq0.lt).lt).below hS3 ((hq0.below hw1 hq0.lt).below hw2 (hq0.below hw1 hq0.lt).lt).lt)
  have hb3 := (hb1.below hw2 hb1.lt).below hS3 (hb1.below hw2 hb1.lt).lt
  have s01 : w.heap.size + 1 < w0.heap.size := hq0.lt
  have s12 : w1.heap.size ≤ w2.heap.size := hw2.size
  have s23 : w2.heap.size < w3.heap.size := hb_w3.lt
  go_upto_region 4 with (first
    | (go_at_call 70; refine (O2.out w3 (hr.below hB3)).mono ?_; rintro e w4 ⟨rfl, hw4⟩)
    | ((with_reducible refine at_op (Op.store 22 (.tmp 12) (.tmp 28)) ?_); refine wpList_store_at at22'.i rfl (.tmp 12) (.tmp 28) rfl w4.heap.size 0 22 (bvs keyZ) (bvs X) rfl rfl (Blk.new w4 22 (bvs keyZ)) (by rw [bvs_length]; exact HX.out) (by rw [bvs_length]; simp [keyZ]) (bvs_one _) ?_; intro w5 hb_w5 hg_w5 hs_w5; rw [splice_keyZ _ HX.out] at hb_w5))
  have hB4 : Below w.heap.size w w4 := hB3.trans (hw4.mono hB3.size)
  obtain ⟨hB5, hS5⟩ := new_store hB4 hB4.size hg_w5
  have s34 : w3.heap.size ≤ w4.heap.size := hw4.size
  have K5 : Four w5 w.heap.size (w.heap.size + 1) w2.heap.size w4.heap.size p q X X :=
    ⟨(hp3.below hw4 hp3.lt).below hS5 (hp3.below hw4 hp3.lt).lt, (hq3.below hw4 hq3.lt).below hS5 (hq3.below hw4 hq3.lt).lt, (hb_w3.below hw4 hb_w3.lt).below hS5 (hb_w3.below hw4 hb_w3.lt).lt, hb_w5⟩
  have hb5 := (hb3.below hw4 hb3.lt).below hS5 (hb3.below hw4 hb3.lt).lt
  have hr5 := hr.below hB5
  have n1 : w.heap.size ≠ w2.heap.size := by omega
  have n2 : w.heap.size + 1 ≠ w2.heap.size := by omega
  have n3 : w.heap.size ≠ w4.heap.size := by omega
  have n4 : w.heap.size + 1 ≠ w4.heap.size := by omega
  have n5 : w2.heap.size ≠ w4.heap.size := by omega
  have m1 : w.heap.size ≤ w2.heap.size := by omega
  have m2 : w.heap.size ≤ w4.heap.size := by omega
  have m3 : w.heap.size ≤ w0.heap.size := by omega
  have m4 : w0.heap.size < w5.heap.size := hb5.lt
  clear hg_w3 hs_w3 hg_w5 hs_w5 hS3 hS5 hw1 hw2 hw4 hB1 hB2 hB3 hB4 hp0 hq0 hp3 hq3 hb1 hb3 hb_w3 hb_w5 hr0 hr hB0 O1 O2 s01 s12 s23 s34 hg3
  generalize w2.heap.size = gx at *
  generalize w4.heap.size = gy at *
  generalize w0.heap.size = g3 at *
  refine rg_begin (Below w5.heap.size w5) [] [1, 3] [0, 2, 1, 3, 4, 5] 0 mixed (by kernel_rfl) (fun _ _ _ _ e hh => ⟨e.symm.trans hh.1, hh.2⟩) ?_
  simp only [pick, List.map_cons, List.map_nil, List.getD_cons_zero, List.getD_cons_succ]
  have hS : (Below w5.heap.size w5) _ := (Below.refl _ _).drew
  refine rg_take rfl rfl hS (fun W hW => exec_load_agg at23' (.tmp 5) rfl w.heap.size 23 (bvs p) rfl (K5.below hW).p (by rw [bvs_length]; exact HP.out)) ?_
  simp only [Act.put, List.setIfInBounds_toArray, List.set_cons_zero, List.set_cons_succ]
  refine rg_take rfl rfl hS (fun W hW => exec_load_agg at23' (.tmp 5) rfl w.heap.size 23 (bvs p) rfl (K5.below hW).p (by rw [bvs_length]; exact HP.out)) ?_
  simp only [Act.put, List.setIfInBounds_toArray, List.set_cons_zero, List.set_cons_succ]
  refine rg_one rfl rfl ?_; intro K hK; go_simp
  refine (B1.out _).mono ?_
  rintro e w6 ⟨v6, rfl, ho6, hw6⟩
  have hS6 := hS.trans (hw6.mono hS.size)
  refine hK _ _ (fun _ => hS6) ?_; clear hK
  refine rg_one rfl rfl ?_; intro K hK; go_simp
  refine (B1.out _).mono ?_
  rintro e w7 ⟨v7, rfl, ho7, hw7⟩
  have hS7 := hS6.trans (hw7.mono hS6.size)
  refine hK _ _ (fun _ => hS7) ?_; clear hK
  refine rg_take (v := ?v1_4) rfl rfl hS7 ?y1_4 ?_
  case y1_4 => intro W hW; (try subst hW); go_simp; try with_reducible rfl
  simp only [Act.put, List.setIfInBounds_toArray, List.set_cons_zero, List.set_cons_succ]
  refine rg_take (v := ?v1_5) rfl rfl hS7 ?y1_5 ?_
  case y1_5 => intro W hW; (try subst hW); go_simp; try with_reducible rfl
  simp only [Act.put, List.setIfInBounds_toArray, List.set_cons_zero, List.set_cons_succ]
  refine rg_done (by kernel_rfl) ?_
  have K7 := K5.below hS7
  have hB7 : Below w.heap.size w w7 := hB5.trans (hS7.mono hB5.size)
  have hb7 := hb5.below hS7 hb5.lt
  have hr7 := hr5.below hS7
  have x6 : OwnB w7 w5.heap.size 5 v6 p := (ho6.mono (by simp)).below hw7 (Nat.le_refl _)
  have x7 : OwnB w7 w6.heap.size 5 v7 p := ho7
  have hwi : Within g3 w7.heap.size [v6, v7, .slice (some ⟨g3, 0, none⟩) n (n + 5)] := by
    have a1 : Within g3 w5.heap.size [.slice (some ⟨g3, 0, none⟩) n (n + 5)] := Within.one (by omega) (fun g hg => by simp [Value.ownBlock] at hg; omega)
    have a2 : Within w5.heap.size w6.heap.size [v6] := (ho6.mono (by simp)).within hS6.size
    have a3 : Within w6.heap.size w7.heap.size [v7] := ho7.within hw7.size
    exact Within.down a1 (a2.up a3)
  obtain ⟨sp6, f6, _⟩ := x6.full
  obtain ⟨sp7, f7, _⟩ := x7.full
  have Fu : AllFull w7 [v6, v7, .slice (some ⟨g3, 0, none⟩) n (n + 5)] [p ++ sp6, p ++ sp7, lentAll l] :=
    AllFull.cons f6 (AllFull.cons f7 (AllFull.cons (lent_full hb7 HL.out (by omega)) (AllFull.nil _)))
  obtain ⟨A6, c6, rfl, hc6, hm6, hd6⟩ := x6.rd
  obtain ⟨A7, c7, rfl, hc7, hm7, hd7⟩ := x7.rd
  rw [HP.out] at hwi Fu hc6 hc7 ⊢
  have s57 : w5.heap.size ≤ w7.heap.size := hS7.size
  clear ho6 ho7 x6 x7 f6 f7 hS hS6 hS7 hw6 hw7 K5 hB5 hb5 hr5 B1
  have SB := Lib.hid (fun W (hW : Below w7.heap.size w7 W) => same_bytes A6 32 c6 p (some ⟨w.heap.size, 0, none⟩) 32 32 p W (hd6.below hW) HP.out (Rd.of_blk0 (es := []) (by simpa using (K7.below hW).p)) HP.out)
  simp only [beq_self_eq_true] at SB
  have KB := Lib.hid (fun W (hW : Below w7.heap.size w7 W) => kept_bytes ⟨g3, 0, none⟩ A n c l W (hr7.below hW) HL.out hn (lent_rd5 (hb7.below hW hb7.lt)))
  go_upto_region 7 with (first
    | ((with_reducible refine at_dst 34 ?_); refine wpList_yield rfl _ (exec_load_agg at23' (.tmp 10) rfl gx 23 (bvs X) rfl K7.x (by rw [bvs_length]; exact HX.out)) ?_)
    | ((with_reducible refine at_dst 36 ?_); refine wpList_yield rfl _ (exec_load_agg at22' (.tmp 12) rfl gy 22 (bvs X) rfl K7.y (by rw [bvs_length]; exact HX.out)) ?_)
    | (go_at_call 71; with_reducible refine (SX.out w7).mono ?_; rintro e w8 ⟨rfl, h8⟩; have t8 : Below w7.heap.size w7 w8 := h8)
    | (go_at_call 40; with_reducible refine (KB.out w8 t8).mono ?_; rintro e w9 ⟨rfl, h9⟩; have t9 := t8.trans (h9.mono t8.size))
    | (go_at_call 33; with_reducible refine (SB.out w9 t9).mono ?_; rintro e w10 ⟨rfl, rfl⟩)
    | (go_at_call 34
       have hd : Below w9.heap.size w9 (w9.alloc (.cells #[.slice A6 32 c6, .slice A7 32 c7, .slice (some ⟨g3, 0, none⟩) n (n + 5)] 24)) := (Below.refl _ _).alloc (Nat.le_refl _) _
       have t10 : Below w7.heap.size w7 (w9.alloc (.cells #[.slice A6 32 c6, .slice A7 32 c7, .slice (some ⟨g3, 0, none⟩) n (n + 5)] 24)) := t9.trans (hd.mono t9.size)
       refine (apart_bytes' w9.heap.size 3 3 [.slice A6 32 c6, .slice A7 32 c7, .slice (some ⟨g3, 0, none⟩) n (n + 5)] [p ++ sp6, p ++ sp7, lentAll l] _ rfl
         (Rd.of_blk0 (es := []) (by simpa using Blk.new w9 24 [.slice A6 32 c6, .slice A7 32 c7, .slice (some ⟨g3, 0, none⟩) n (n + 5)])) rfl (Fu.below rfl t10) (hwi.sep t9.size) (by simp)).mono ?_
       rintro e w11 ⟨rfl, h11⟩
       have t11 := t10.trans (h11.mono t10.size)))
  have K11 := K7.below t11
  have hB11 : Below w.heap.size w w11 := hB7.trans (t11.mono hB7.size)
  clear K7 hB7 t8 t9 t10 t11 h8 h9 h11 hd hd6 hd7 Fu hwi hb7 hr7 SB KB SX
  refine rg_begin (Below w11.heap.size w11) [] [2, 5, 10, 13, 19, 22, 29, 33] [0, 1, 3, 4, 2, 5, 6, 7, 8, 9, 11, 12, 10, 13, 14, 15, 16, 17, 18, 20, 21, 19, 22, 23, 24, 25, 26, 27, 28, 30, 31, 32, 29, 33, 34, 35] 0 mixed (by kernel_rfl) (fun _ _ _ _ e hh => ⟨e.symm.trans hh.1, hh.2⟩) ?_
  simp only [pick, List.map_cons, List.map_nil, List.getD_cons_zero, List.getD_cons_succ]
  have hS : (Below w11.heap.size w11) _ := (Below.refl _ _).drew
  refine rg_take rfl rfl hS (fun W hW => exec_load_agg at23' (.tmp 5) rfl w.heap.size 23 (bvs p) rfl (K11.below hW).p (by rw [bvs_length]; exact HP.out)) ?_
  simp only [Act.put, List.setIfInBounds_toArray, List.set_cons_zero, List.set_cons_succ]
  refine rg_take (v := ?v2_1) rfl rfl hS ?y2_1 ?_
  case y2_1 => intro W hW; (try subst hW); go_simp; try with_reducible rfl
  simp only [Act.put, List.setIfInBounds_toArray, List.set_cons_zero, List.set_cons_succ]
  refine rg_take rfl rfl hS (fun W hW => exec_load_agg at23' (.tmp 5) rfl w.heap.size 23 (bvs p) rfl (K11.below hW).p (by rw [bvs_length]; exact HP.out)) ?_
  simp only [Act.put, List.setIfInBounds_toArray, List.set_cons_zero, List.set_cons_succ]
  refine rg_take (v := ?v2_4) rfl rfl hS ?y2_4 ?_
  case y2_4 => intro W hW; (try subst hW); go_simp; try with_reducible rfl
  simp only [Act.put, List.setIfInBounds_toArray, List.set_cons_zero, List.set_cons_succ]
  refine rg_one rfl rfl ?_; intro K hK; go_simp
  refine (T1.out _).mono ?_
  rintro e w12 ⟨rfl, hw12⟩
  have hS12 := hS.trans (hw12.mono hS.size)
  refine hK _ _ (fun _ => hS12) ?_; clear hK
  refine rg_one rfl rfl ?_; intro K hK; go_simp
  refine (T2.out _).mono ?_
  rintro e w13 ⟨rfl, hw13⟩
  have hS13 := hS12.trans (hw13.mono hS12.size)
  refine hK _ _ (fun _ => hS13) ?_; clear hK
  refine rg_take (v := ?v2_6) rfl rfl hS13 ?y2_6 ?_
  case y2_6 => intro W hW; (try subst hW); go_simp; try with_reducible rfl
  simp only [Act.put, List.setIfInBounds_toArray, List.set_cons_zero, List.set_cons_succ]
  refine rg_take (v := ?v2_7) rfl rfl hS13 ?y2_7 ?_
  case y2_7 => intro W hW; (try subst hW); go_simp; try with_reducible rfl
  simp only [Act.put, List.setIfInBounds_toArray, List.set_cons_zero, List.set_cons_succ]
  refine rg_take rfl rfl hS13 (fun W hW => exec_load_agg at23' (.tmp 5) rfl w.heap.size 23 (bvs p) rfl (K11.below hW).p (by rw [bvs_length]; exact HP.out)) ?_
  simp only [Act.put, List.setIfInBounds_toArray, List.set_cons_zero, List.set_cons_succ]
  refine rg_take rfl rfl hS13 (fun W hW => exec_load_agg at23' (.tmp 6) rfl (w.heap.size + 1) 23 (bvs q) rfl (K11.below hW).q (by rw [bvs_length]; exact HQ.out)) ?_
  simp only [Act.put, List.setIfInBounds_toArray, List.set_cons_zero, List.set_cons_succ]
  refine rg_take rfl rfl hS13 (fun W hW => exec_load_agg at23' (.tmp 5) rfl w.heap.size 23 (bvs p) rfl (K11.below hW).p (by rw [bvs_length]; exact HP.out)) ?_
  simp only [Act.put, List.setIfInBounds_toArray, List.set_cons_zero, List.set_cons_succ]
  refine rg_take rfl rfl hS13 (fun W hW => exec_load_agg at23' (.tmp 6) rfl (w.heap.size + 1) 23 (bvs q) rfl (K11.below hW).q (by rw [bvs_length]; exact HQ.out)) ?_
  simp only [Act.put, List.setIfInBounds_toArray, List.set_cons_zero, List.set_cons_succ]
  refine rg_one rfl rfl ?_; intro K hK; go_simp
  refine (T3.out _).mono ?_
  rintro e w14 ⟨rfl, hw14⟩
  have hS14 := hS13.trans (hw14.mono hS13.size)
  refine hK _ _ (fun _ => hS14) ?_; clear hK
  refine rg_one rfl rfl ?_; intro K hK; go_simp
  refine (T4.out _).mono ?_
  rintro e w15 ⟨rfl, hw15⟩
  have hS15 := hS14.trans (hw15.mono hS14.size)
  refine hK _ _ (fun _ => hS15) ?_; clear hK
  refine rg_take (v := ?v2_14) rfl rfl hS15 ?y2_14 ?_
  case y2_14 => intro W hW; (try subst hW); go_simp; try with_reducible rfl
  simp only [Act.put, List.setIfInBounds_toArray, List.set_cons_zero, List.set_cons_succ]
  refine rg_take (v := ?v2_15) rfl rfl hS15 ?y2_15 ?_
  case y2_15 => intro W hW; (try subst hW); go_simp; try with_reducible rfl
  simp only [Act.put, List.setIfInBounds_toArray, List.set_cons_zero, List.set_cons_succ]
  refine rg_take (v := ?v2_16) rfl rfl hS15 ?y2_16 ?_
  case y2_16 => intro W hW; (try subst hW); go_simp; try with_reducible rfl
  simp only [Act.put, List.setIfInBounds_toArray, List.set_cons_zero, List.set_cons_succ]
  refine rg_take rfl rfl hS15 (fun W hW => exec_load_agg at23' (.tmp 5) rfl w.heap.size 23 (bvs p) rfl (K11.below hW).p (by rw [bvs_length]; exact HP.out)) ?_
  simp only [Act.put, List.setIfInBounds_toArray, List.set_cons_zero, List.set_cons_succ]
  refine rg_take rfl rfl hS15 (fun W hW => exec_load_agg at23' (.tmp 6) rfl (w.heap.size + 1) 23 (bvs q) rfl (K11.below hW).q (by rw [bvs_length]; exact HQ.out)) ?_
  simp only [Act.put, List.setIfInBounds_toArray, List.set_cons_zero, List.set_cons_succ]
  refine rg_take rfl rfl hS15 (fun W hW => exec_load_agg at23' (.tmp 5) rfl w.heap.size 23 (bvs p) rfl (K11.below hW).p (by rw [bvs_length]; exact HP.out)) ?_
  simp only [Act.put, List.setIfInBounds_toArray, List.set_cons_zero, List.set_cons_succ]
  refine rg_take rfl rfl hS15 (fun W hW => exec_load_agg at23' (.tmp 6) rfl (w.heap.size + 1) 23 (bvs q) rfl (K11.below hW).q (by rw [bvs_length]; exact HQ.out)) ?_
  simp only [Act.put, List.setIfInBounds_toArray, List.set_cons_zero, List.set_cons_succ]
  refine rg_one rfl rfl ?_; intro K hK; go_simp
  refine (T5.out _).mono ?_
  rintro e w16 ⟨rfl, hw16⟩
  have hS16 := hS15.trans (hw16.mono hS15.size)
  refine hK _ _ (fun _ => hS16) ?_; clear hK
  refine rg_one rfl rfl ?_; intro K hK; go_simp
  refine (T6.out _).mono ?_
  rintro e w17 ⟨rfl, hw17⟩
  have hS17 := hS16.trans (hw17.mono hS16.size)
  refine hK _ _ (fun _ => hS17) ?_; clear hK
  refine rg_take (v := ?v2_23) rfl rfl hS17 ?y2_23 ?_
  case y2_23 => intro W hW; (try subst hW); go_simp; try with_reducible rfl
  simp only [Act.put, List.setIfInBounds_toArray, List.set_cons_zero, List.set_cons_succ]
  refine rg_take (v := ?v2_24) rfl rfl hS17 ?y2_24 ?_
  case y2_24 => intro W hW; (try subst hW); go_simp; try with_reducible rfl
  simp only [Act.put, List.setIfInBounds_toArray, List.set_cons_zero, List.set_cons_succ]
  refine rg_take (v := ?v2_25) rfl rfl hS17 ?y2_25 ?_
  case y2_25 => intro W hW; (try subst hW); go_simp; try with_reducible rfl
  simp only [Act.put, List.setIfInBounds_toArray, List.set_cons_zero, List.set_cons_succ]
  refine rg_take rfl rfl hS17 (fun W hW => exec_load_agg at23' (.tmp 5) rfl w.heap.size 23 (bvs p) rfl (K11.below hW).p (by rw [bvs_length]; exact HP.out)) ?_
  simp only [Act.put, List.setIfInBounds_toArray, List.set_cons_zero, List.set_cons_succ]
  refine rg_take rfl rfl hS17 (fun W hW => exec_load_agg at23' (.tmp 6) rfl (w.heap.size + 1) 23 (bvs q) rfl (K11.below hW).q (by rw [bvs_length]; exact HQ.out)) ?_
  simp only [Act.put, List.setIfInBounds_toArray, List.set_cons_zero, List.set_cons_succ]
  refine rg_take (v := ?v2_28) rfl rfl hS17 ?y2_28 ?_
  case y2_28 => intro W hW; (try subst hW); go_simp; try with_reducible rfl
  simp only [Act.put, List.setIfInBounds_toArray, List.set_cons_zero, List.set_cons_succ]
  refine rg_take rfl rfl hS17 (fun W hW => exec_load_agg at23' (.tmp 5) rfl w.heap.size 23 (bvs p) rfl (K11.below hW).p (by rw [bvs_length]; exact HP.out)) ?_
  simp only [Act.put, List.setIfInBounds_toArray, List.set_cons_zero, List.set_cons_succ]
  refine rg_take rfl rfl hS17 (fun W hW => exec_load_agg at23' (.tmp 6) rfl (w.heap.size + 1) 23 (bvs q) rfl (K11.below hW).q (by rw [bvs_length]; exact HQ.out)) ?_
  simp only [Act.put, List.setIfInBounds_toArray, List.set_cons_zero, List.set_cons_succ]
  refine rg_take (v := ?v2_32) rfl rfl hS17 ?y2_32 ?_
  case y2_32 => intro W hW; (try subst hW); go_simp; try with_reducible rfl
  simp only [Act.put, List.setIfInBounds_toArray, List.set_cons_zero, List.set_cons_succ]
  refine rg_one rfl rfl ?_; intro K hK; go_simp
  refine (T7.out _).mono ?_
  rintro e w18 ⟨rfl, hw18⟩
  have hS18 := hS17.trans (hw18.mono hS17.size)
  refine hK _ _ (fun _ => hS18) ?_; clear hK
  refine rg_one rfl rfl ?_; intro K hK; go_simp
  refine (T8.out _).mono ?_
  rintro e w19 ⟨rfl, hw19⟩
  have hS19 := hS18.trans (hw19.mono hS18.size)
  refine hK _ _ (fun _ => hS19) ?_; clear hK
  refine rg_take (v := ?v2_34) rfl rfl hS19 ?y2_34 ?_
  case y2_34 => intro W hW; (try subst hW); go_simp; try with_reducible rfl
  simp only [Act.put, List.setIfInBounds_toArray, List.set_cons_zero, List.set_cons_succ]
  refine rg_take (v := ?v2_35) rfl rfl hS19 ?y2_35 ?_
  case y2_35 => intro W hW; (try subst hW); go_simp; try with_reducible rfl
  simp only [Act.put, List.setIfInBounds_toArray, List.set_cons_zero, List.set_cons_succ]
  refine rg_done (by kernel_rfl) ?_
  have K19 := K11.below hS19
  have hB19 : Below w.heap.size w w19 := hB11.trans (hS19.mono hB11.size)
  clear K11 hB11 hS12 hS13 hS14 hS15 hS16 hS17 hS18 hS19 hS hw12 hw13 hw14 hw15 hw16 hw17 hw18 hw19 T1 T2 T3 T4 T5 T6 T7 T8
  go_upto_region 13 with (first
    | ((with_reducible refine at_dst 97 ?_); refine wpList_yield rfl _ (exec_load_agg at23' (.tmp 5) rfl w.heap.size 23 (bvs p) rfl K19.p (by rw [bvs_length]; exact HP.out)) ?_)
    | (go_at_call 69; refine (F1.out w19).mono ?_; rintro e w20 ⟨rfl, h_w20⟩; have K_w20 := K19.below h_w20; have B_w20 : Below w.heap.size w w20 := hB19.trans (h_w20.mono hB19.size))
    | ((with_reducible refine at_op (Op.store 23 (.tmp 10) (.tmp 100)) ?_); refine wpList_store_at at23'.i rfl (.tmp 10) (.tmp 100) rfl gx 0 23 (bvs X) (bvs F) rfl rfl K_w20.x (by rw [bvs_length]; exact HF.out) (by rw [bvs_length, HX.out]; omega) (bvs_one _) ?_; intro w21 hb_w21 hg_w21 hs_w21; rw [splice_whole _ _ (by rw [bvs_length, bvs_length, HX.out, HF.out])] at hb_w21; have K_w21 := K_w20.putX hg_w21 hb_w21 n1 n2 (Ne.symm n5); have B_w21 : Below w.heap.size w w21 := B_w20.grown hg_w21 B_w20.size (by intro k hk; cases hk; exact m1))
    | ((with_reducible refine at_dst 103 ?_); refine wpList_yield rfl _ (exec_load_agg at23' (.tmp 5) rfl w.heap.size 23 (bvs p) rfl K_w21.p (by rw [bvs_length]; exact HP.out)) ?_)
    | (go_at_call 76; refine (F2.out w21).mono ?_; rintro e w22 ⟨rfl, h_w22⟩; have K_w22 := K_w21.below h_w22; have B_w22 : Below w.heap.size w w22 := B_w21.trans (h_w22.mono B_w21.size))
    | ((with_reducible refine at_op (Op.store 22 (.tmp 12) (.tmp 106)) ?_); refine wpList_store_at at22'.i rfl (.tmp 12) (.tmp 106) rfl gy 0 22 (bvs X) (bvs F) rfl rfl K_w22.y (by rw [bvs_length]; exact HF.out) (by rw [bvs_length, HX.out]; omega) (bvs_one _) ?_; intro w23 hb_w23 hg_w23 hs_w23; rw [splice_whole _ _ (by rw [bvs_length, bvs_length, HX.out, HF.out])] at hb_w23; have K_w23 := K_w22.putY hg_w23 hb_w23 n3 n4 n5; have B_w23 : Below w.heap.size w w23 := B_w22.grown hg_w23 B_w22.size (by intro k hk; cases hk; exact m2))
    | ((with_reducible refine at_dst 108 ?_); refine wpList_yield rfl _ (exec_load_agg at23' (.tmp 10) rfl gx 23 (bvs F) rfl K_w23.x (by rw [bvs_length]; exact HF.out)) ?_)
    | ((with_reducible refine at_dst 110 ?_); refine wpList_yield rfl _ (exec_load_agg at22' (.tmp 12) rfl gy 22 (bvs F) rfl K_w23.y (by rw [bvs_length]; exact HF.out)) ?_)
    | (go_at_call 71; refine (F3.out w23).mono ?_; rintro e w24 ⟨rfl, h_w24⟩; have K_w24 := K_w23.below h_w24; have B_w24 : Below w.heap.size w w24 := B_w23.trans (h_w24.mono B_w23.size)))
  clear K19 hB19 K_w20 K_w21 K_w22 K_w23 B_w20 B_w21 B_w22 B_w23 hg_w21 hb_w21 hs_w21 hg_w23 hb_w23 hs_w23 h_w20 h_w22 h_w24
  go_upto_region 17 with (first
    | ((with_reducible refine at_dst 115 ?_); refine wpList_yield rfl _ (exec_load_agg at23' (.tmp 5) rfl w.heap.size 23 (bvs p) rfl K_w24.p (by rw [bvs_length]; exact HP.out)) ?_)
    | (go_at_call 65; refine (G1.out w24).mono ?_; rintro e w25 ⟨rfl, h_w25⟩; have K_w25 := K_w24.below h_w25; have B_w25 : Below w.heap.size w w25 := B_w24.trans (h_w25.mono B_w24.size))
    | ((with_reducible refine at_op (Op.store 23 (.tmp 10) (.tmp 118)) ?_); refine wpList_store_at at23'.i rfl (.tmp 10) (.tmp 118) rfl gx 0 23 (bvs F) (bvs A0) rfl rfl K_w25.x (by rw [bvs_length]; exact HA0.out) (by rw [bvs_length, HF.out]; omega) (bvs_one _) ?_; intro w26 hb_w26 hg_w26 hs_w26; rw [splice_whole _ _ (by rw [bvs_length, bvs_length, HF.out, HA0.out])] at hb_w26; have K_w26 := K_w25.putX hg_w26 hb_w26 n1 n2 (Ne.symm n5); have B_w26 : Below w.heap.size w w26 := B_w25.grown hg_w26 B_w25.size (by intro k hk; cases hk; exact m1))
    | ((with_reducible refine at_dst 121 ?_); refine wpList_yield rfl _ (exec_load_agg at23' (.tmp 5) rfl w.heap.size 23 (bvs p) rfl K_w26.p (by rw [bvs_length]; exact HP.out)) ?_)
    | (go_at_call 77; refine (G2.out w26).mono ?_; rintro e w27 ⟨rfl, h_w27⟩; have K_w27 := K_w26.below h_w27; have B_w27 : Below w.heap.size w w27 := B_w26.trans (h_w27.mono B_w26.size))
    | ((with_reducible refine at_op (Op.store 22 (.tmp 12) (.tmp 124)) ?_); refine wpList_store_at at22'.i rfl (.tmp 12) (.tmp 124) rfl gy 0 22 (bvs F) (bvs A0) rfl rfl K_w27.y (by rw [bvs_length]; exact HA0.out) (by rw [bvs_length, HF.out]; omega) (bvs_one _) ?_; intro w28 hb_w28 hg_w28 hs_w28; rw [splice_whole _ _ (by rw [bvs_length, bvs_length, HF.out, HA0.out])] at hb_w28; have K_w28 := K_w27.putY hg_w28 hb_w28 n3 n4 n5; have B_w28 : Below w.heap.size w w28 := B_w27.grown hg_w28 B_w27.size (by intro k hk; cases hk; exact m2))
    | ((with_reducible refine at_dst 126 ?_); refine wpList_yield rfl _ (exec_load_agg at23' (.tmp 10) rfl gx 23 (bvs A0) rfl K_w28.x (by rw [bvs_length]; exact HA0.out)) ?_)
    | ((with_reducible refine at_dst 128 ?_); refine wpList_yield rfl _ (exec_load_agg at22' (.tmp 12) rfl gy 22 (bvs A0) rfl K_w28.y (by rw [bvs_length]; exact HA0.out)) ?_)
    | (go_at_call 71; refine (G3.out w28).mono ?_; rintro e w29 ⟨rfl, h_w29⟩; have K_w29 := K_w28.below h_w29; have B_w29 : Below w.heap.size w w29 := B_w28.trans (h_w29.mono B_w28.size)))
  clear K_w24 B_w24 K_w25 K_w26 K_w27 K_w28 B_w25 B_w26 B_w27 B_w28 hg_w26 hb_w26 hs_w26 hg_w28 hb_w28 hs_w28 h_w25 h_w27 h_w29
  go_upto_region 21 with (first
    | ((with_reducible refine at_dst 133 ?_); refine wpList_yield rfl _ (exec_load_agg at23' (.tmp 5) rfl w.heap.size 23 (bvs p) rfl K_w29.p (by rw [bvs_length]; exact HP.out)) ?_)
    | (go_at_call 66; refine (L1.out w29).mono ?_; rintro e w30 ⟨rfl, h_w30⟩; have K_w30 := K_w29.below h_w30; have B_w30 : Below w.heap.size w w30 := B_w29.trans (h_w30.mono B_w29.size))
    | ((with_reducible refine at_op (Op.store 23 (.tmp 10) (.tmp 136)) ?_); refine wpList_store_at at23'.i rfl (.tmp 10) (.tmp 136) rfl gx 0 23 (bvs A0) (bvs A1) rfl rfl K_w30.x (by rw [bvs_length]; exact HA1.out) (by rw [bvs_length, HA0.out]; omega) (bvs_one _) ?_; intro w31 hb_w31 hg_w31 hs_w31; rw [splice_whole _ _ (by rw [bvs_length, bvs_length, HA0.out, HA1.out])] at hb_w31; have K_w31 := K_w30.putX hg_w31 hb_w31 n1 n2 (Ne.symm n5); have B_w31 : Below w.heap.size w w31 := B_w30.grown hg_w31 B_w30.size (by intro k hk; cases hk; exact m1))
    | ((with_reducible refine at_dst 139 ?_); refine wpList_yield rfl _ (exec_load_agg at23' (.tmp 5) rfl w.heap.size 23 (bvs p) rfl K_w31.p (by rw [bvs_length]; exact HP.out)) ?_)
    | (go_at_call 77; refine (L2.out w31).mono ?_; rintro e w32 ⟨rfl, h_w32⟩; have K_w32 := K_w31.below h_w32; have B_w32 : Below w.heap.size w w32 := B_w31.trans (h_w32.mono B_w31.size))
    | ((with_reducible refine at_op (Op.store 22 (.tmp 12) (.tmp 142)) ?_); refine wpList_store_at at22'.i rfl (.tmp 12) (.tmp 142) rfl gy 0 22 (bvs A0) (bvs A1) rfl rfl K_w32.y (by rw [bvs_length]; exact HA1.out) (by rw [bvs_length, HA0.out]; omega) (bvs_one _) ?_; intro w33 hb_w33 hg_w33 hs_w33; rw [splice_whole _ _ (by rw [bvs_length, bvs_length, HA0.out, HA1.out])] at hb_w33; have K_w33 := K_w32.putY hg_w33 hb_w33 n3 n4 n5; have B_w33 : Below w.heap.size w w33 := B_w32.grown hg_w33 B_w32.size (by intro k hk; cases hk; exact m2))
    | ((with_reducible refine at_dst 144 ?_); refine wpList_yield rfl _ (exec_load_agg at23' (.tmp 10) rfl gx 23 (bvs A1) rfl K_w33.x (by rw [bvs_length]; exact HA1.out)) ?_)
    | ((with_reducible refine at_dst 146 ?_); refine wpList_yield rfl _ (exec_load_agg at22' (.tmp 12) rfl gy 22 (bvs A1) rfl K_w33.y (by rw [bvs_length]; exact HA1.out)) ?_)
    | (go_at_call 71; refine (L3.out w33).mono ?_; rintro e w34 ⟨rfl, h_w34⟩; have K_w34 := K_w33.below h_w34; have B_w34 : Below w.heap.size w w34 := B_w33.trans (h_w34.mono B_w33.size)))
  clear K_w29 B_w29 K_w30 K_w31 K_w32 K_w33 B_w30 B_w31 B_w32 B_w33 hg_w31 hb_w31 hs_w31 hg_w33 hb_w33 hs_w33 h_w30 h_w32 h_w34
  go_wp2_with (first
    | ((with_reducible refine at_dst 151 ?_); refine wpList_yield rfl _ (exec_load_agg at23' (.tmp 5) rfl w.heap.size 23 (bvs p) rfl K_w34.p (by rw [bvs_length]; exact HP.out)) ?_)
    | (go_at_call 68; refine (N1.out w34).mono ?_; rintro e w35 ⟨rfl, h_w35⟩; have K_w35 := K_w34.below h_w35; have B_w35 : Below w.heap.size w w35 := B_w34.trans (h_w35.mono B_w34.size))
    | ((with_reducible refine at_op (Op.store 23 (.tmp 10) (.tmp 153)) ?_); refine wpList_store_at at23'.i rfl (.tmp 10) (.tmp 153) rfl gx 0 23 (bvs A1) (bvs N) rfl rfl K_w35.x (by rw [bvs_length]; exact HN.out) (by rw [bvs_length, HA1.out]; omega) (bvs_one _) ?_; intro w36 hb_w36 hg_w36 hs_w36; rw [splice_whole _ _ (by rw [bvs_length, bvs_length, HA1.out, HN.out])] at hb_w36; have K_w36 := K_w35.putX hg_w36 hb_w36 n1 n2 (Ne.symm n5); have B_w36 : Below w.heap.size w w36 := B_w35.grown hg_w36 B_w35.size (by intro k hk; cases hk; exact m1))
    | ((with_reducible refine at_dst 156 ?_); refine wpList_yield rfl _ (exec_load_agg at23' (.tmp 5) rfl w.heap.size 23 (bvs p) rfl K_w36.p (by rw [bvs_length]; exact HP.out)) ?_)
    | (go_at_call 78; refine (N2.out w36).mono ?_; rintro e w37 ⟨rfl, h_w37⟩; have K_w37 := K_w36.below h_w37; have B_w37 : Below w.heap.size w w37 := B_w36.trans (h_w37.mono B_w36.size))
    | ((with_reducible refine at_op (Op.store 22 (.tmp 12) (.tmp 158)) ?_); refine wpList_store_at at22'.i rfl (.tmp 12) (.tmp 158) rfl gy 0 22 (bvs A1) (bvs N) rfl rfl K_w37.y (by rw [bvs_length]; exact HN.out) (by rw [bvs_length, HA1.out]; omega) (bvs_one _) ?_; intro w38 hb_w38 hg_w38 hs_w38; rw [splice_whole _ _ (by rw [bvs_length, bvs_length, HA1.out, HN.out])] at hb_w38; have K_w38 := K_w37.putY hg_w38 hb_w38 n3 n4 n5; have B_w38 : Below w.heap.size w w38 := B_w37.grown hg_w38 B_w37.size (by intro k hk; cases hk; exact m2))
    | ((with_reducible refine at_dst 160 ?_); refine wpList_yield rfl _ (exec_load_agg at23' (.tmp 10) rfl gx 23 (bvs N) rfl K_w38.x (by rw [bvs_length]; exact HN.out)) ?_)
    | ((with_reducible refine at_dst 161 ?_); refine wpList_yield rfl _ (exec_load_agg at22' (.tmp 12) rfl gy 22 (bvs N) rfl K_w38.y (by rw [bvs_length]; exact HN.out)) ?_)
    | ((with_reducible refine at_dst 162 ?_); refine wpList_yield rfl _ (exec_eql_is (b := true) ab23 (.tmp 160) (.tmp 161) rfl N N rfl rfl HN.out HN.out (by simp)) ?_))
  go_ret
  exact ⟨rfl, B_w38⟩
end Go.Proofs.Ytehbahobkgoapaa
