/- The walk of TagTexts: it says true for every key, value and digests. -/
import Derived.Test.YtehbahobkgoapaaTx
namespace Go.Proofs.Ytehbahobkgoapaa
open Go Go.RowKit
set_option linter.unusedSimpArgs false
set_option linter.unusedVariables false

theorem at23 : AT Try.prog 23 32 := ⟨⟨_, Try.underlying23, rfl⟩, by kernel_rfl⟩
theorem at25 : AT Try.prog 25 32 := ⟨⟨_, Try.underlying25, rfl⟩, by kernel_rfl⟩
theorem at22 : AT Try.prog 22 32 := ⟨⟨_, Try.underlying22, rfl⟩, by kernel_rfl⟩

theorem OwnB.shape {w : World} {base E : Nat} {v : Value} {l : List UInt8} (h : OwnB w base E v l) : ∃ A n c, v = .slice A n c := by
  obtain ⟨A, c, e, _⟩ := h.rd
  exact ⟨A, _, c, e⟩

set_option maxHeartbeats 4000000 in
set_option maxRecDepth 100000 in
theorem tag_texts (k a b : List UInt8) (A : Option Addr) (n c : Nat) (l : List UInt8) (w : World) (hk : k.length = 32) (ha : a.length = 32) (hb : b.length = 32) (hr : Rd w A (bvs l)) (hl : l.length = n) (hnc : n ≤ c) (hn : n ≤ 140737488351232) :
   Calls Try.prog 3 #[arr8 k, .slice A n c, arr8 a, arr8 b] w fun e w' => e = .returned (.bool true) ∧ Below w.heap.size w w' := by
  have HK := Lib.hid hk
  have HA := Lib.hid ha
  have HB := Lib.hid hb
  have HL := Lib.hid hl
  clear hk ha hb hl
  unfold arr8
  go_enter Try.func3, Try.ntmps3
  go_wp2_with fail
  generalize hW : ((w.alloc (.cells (bvs k).toArray 23)).alloc (.cells (bvs a).toArray 25)).alloc (.cells (bvs b).toArray 25) = w0
  have hB0 : Below w.heap.size w w0 := by rw [← hW]; exact (((Below.refl _ _).alloc (Nat.le_refl _) _).alloc (by simp) _).alloc (by simp; omega) _
  have hbk : Blk w0 w.heap.size 23 (bvs k) := by rw [← hW]; exact ((Blk.new _ _ _).alloc _).alloc _
  have hba : Blk w0 (w.heap.size + 1) 25 (bvs a) := by
    rw [← hW]
    have := (Blk.new (w.alloc (.cells (bvs k).toArray 23)) 25 (bvs a)).alloc (.cells (bvs b).toArray 25)
    simpa using this
  have hbb : Blk w0 (w.heap.size + 2) 25 (bvs b) := by
    rw [← hW]
    have := Blk.new ((w.alloc (.cells (bvs k).toArray 23)).alloc (.cells (bvs a).toArray 25)) 25 (bvs b)
    simpa using this
  clear hW
  refine (lent A n c l w0 (hr.below hB0) HL.out hn).mono ?_
  rintro e wb ⟨rfl, hbp, hwp, hzp⟩
  have hzp : w0.heap.size < wb.heap.size := by omega
  have hBb : Below w.heap.size w wb := hB0.trans (hwp.mono hB0.size)
  have hbk := hbk.below hwp hbk.lt
  have hba := hba.below hwp hba.lt
  have hbb := hbb.below hwp hbb.lt
  have hsp : Sl1 wb (.slice (some ⟨w0.heap.size, 0, none⟩) n (n + 5)) l := ⟨_, n + 5, by rw [HL.out], by rw [HL.out]; omega, Rd.of_blk0 (es := bvs ((List.range 5).map (fun i => mark (l.length + i)))) (by rw [← bvs_append]; exact hbp)⟩
  have hsv : Sl1 wb (.slice A n c) l := ⟨A, c, by rw [HL.out], by rw [HL.out]; omega, hr.below hBb⟩
  go_wp2_with fail
  refine rg_begin (Below wb.heap.size wb) [] [0, 1, 3, 6, 9, 12, 14] [2, 4, 5, 7, 8, 10, 11, 13, 0, 1, 3, 6, 9, 12, 14, 15] 0 mixed (by kernel_rfl) (fun _ _ _ _ e hh => ⟨e.symm.trans hh.1, hh.2⟩) ?_
  simp only [pick, List.map_cons, List.map_nil, List.getD_cons_zero, List.getD_cons_succ]
  have hS : (Below wb.heap.size wb) _ := (Below.refl _ _).drew
  refine rg_take (v := ?v1_2) rfl rfl hS ?y1_2 ?_
  case y1_2 => intro W hW; (try subst hW); go_simp; try with_reducible rfl
  simp only [Act.put, List.setIfInBounds_toArray, List.set_cons_zero, List.set_cons_succ]
  refine rg_take rfl rfl hS (fun W hW => exec_load_agg at23 (.tmp 4) rfl w.heap.size 23 _ rfl (hbk.below hW hbk.lt) (by rw [bvs_length]; exact HK.out)) ?_
  simp only [Act.put, List.setIfInBounds_toArray, List.set_cons_zero, List.set_cons_succ]
  refine rg_take rfl rfl hS (fun W hW => exec_load_agg at25 (.tmp 6) rfl (w.heap.size + 1) 25 _ rfl (hba.below hW hba.lt) (by rw [bvs_length]; exact HA.out)) ?_
  simp only [Act.put, List.setIfInBounds_toArray, List.set_cons_zero, List.set_cons_succ]
  refine rg_take rfl rfl hS (fun W hW => exec_load_agg at25 (.tmp 6) rfl (w.heap.size + 1) 25 _ rfl (hba.below hW hba.lt) (by rw [bvs_length]; exact HA.out)) ?_
  simp only [Act.put, List.setIfInBounds_toArray, List.set_cons_zero, List.set_cons_succ]
  refine rg_take rfl rfl hS (fun W hW => exec_load_agg at25 (.tmp 7) rfl (w.heap.size + 2) 25 _ rfl (hbb.below hW hbb.lt) (by rw [bvs_length]; exact HB.out)) ?_
  simp only [Act.put, List.setIfInBounds_toArray, List.set_cons_zero, List.set_cons_succ]
  refine rg_take rfl rfl hS (fun W hW => exec_load_agg at23 (.tmp 4) rfl w.heap.size 23 _ rfl (hbk.below hW hbk.lt) (by rw [bvs_length]; exact HK.out)) ?_
  simp only [Act.put, List.setIfInBounds_toArray, List.set_cons_zero, List.set_cons_succ]
  refine rg_take rfl rfl hS (fun W hW => exec_load_agg at25 (.tmp 6) rfl (w.heap.size + 1) 25 _ rfl (hba.below hW hba.lt) (by rw [bvs_length]; exact HA.out)) ?_
  simp only [Act.put, List.setIfInBounds_toArray, List.set_cons_zero, List.set_cons_succ]
  refine rg_take (v := ?v1_13) rfl rfl hS ?y1_13 ?_
  case y1_13 => intro W hW; (try subst hW); go_simp; try with_reducible rfl
  simp only [Act.put, List.setIfInBounds_toArray, List.set_cons_zero, List.set_cons_succ]
  refine rg_one rfl rfl ?_; intro K hK; go_simp
  refine (empty_text _).mono ?_
  rintro e wc ⟨v0, rfl, ho0, hn⟩
  have hlt0 := Lib.hid (ho0.within hn.size)
  have hS := hS.trans (hn.mono hS.size)
  refine hK _ _ (fun _ => hS) ?_; clear hK hn
  refine rg_one rfl rfl ?_; intro K hK; go_simp
  refine (empty_text _).mono ?_
  rintro e wc ⟨v1, rfl, ho1, hn⟩
  have hlt1 := Lib.hid (ho1.within hn.size)
  have hS := hS.trans (hn.mono hS.size)
  (try (have ho0 := ho0.below hn (Nat.le_refl _)))
  refine hK _ _ (fun _ => hS) ?_; clear hK hn
  refine rg_one rfl rfl ?_; intro K hK; go_simp
  refine (value_text _ l _ (hsp.below hS) (by have := HL.out; omega)).mono ?_
  rintro e wc ⟨v2, rfl, ho2, hn⟩
  have hlt2 := Lib.hid (ho2.within hn.size)
  have hS := hS.trans (hn.mono hS.size)
  (try (have ho0 := ho0.below hn (Nat.le_refl _)))
  (try (have ho1 := ho1.below hn (Nat.le_refl _)))
  refine hK _ _ (fun _ => hS) ?_; clear hK hn
  refine rg_one rfl rfl ?_; intro K hK; go_simp
  refine (leaf_text k a _ HK.out HA.out).mono ?_
  rintro e wc ⟨v3, rfl, ho3, hn⟩
  have hlt3 := Lib.hid (ho3.within hn.size)
  have hS := hS.trans (hn.mono hS.size)
  (try (have ho0 := ho0.below hn (Nat.le_refl _)))
  (try (have ho1 := ho1.below hn (Nat.le_refl _)))
  (try (have ho2 := ho2.below hn (Nat.le_refl _)))
  refine hK _ _ (fun _ => hS) ?_; clear hK hn
  refine rg_one rfl rfl ?_; intro K hK; go_simp
  refine (inner_text a b _ HA.out HB.out).mono ?_
  rintro e wc ⟨v4, rfl, ho4, hn⟩
  have hlt4 := Lib.hid (ho4.within hn.size)
  have hS := hS.trans (hn.mono hS.size)
  (try (have ho0 := ho0.below hn (Nat.le_refl _)))
  (try (have ho1 := ho1.below hn (Nat.le_refl _)))
  (try (have ho2 := ho2.below hn (Nat.le_refl _)))
  (try (have ho3 := ho3.below hn (Nat.le_refl _)))
  refine hK _ _ (fun _ => hS) ?_; clear hK hn
  refine rg_one rfl rfl ?_; intro K hK; go_simp
  refine (leaf_text k a _ HK.out HA.out).mono ?_
  rintro e wc ⟨v5, rfl, ho5, hn⟩
  have hlt5 := Lib.hid (ho5.within hn.size)
  have hS := hS.trans (hn.mono hS.size)
  (try (have ho0 := ho0.below hn (Nat.le_refl _)))
  (try (have ho1 := ho1.below hn (Nat.le_refl _)))
  (try (have ho2 := ho2.below hn (Nat.le_refl _)))
  (try (have ho3 := ho3.below hn (Nat.le_refl _)))
  (try (have ho4 := ho4.below hn (Nat.le_refl _)))
  refine hK _ _ (fun _ => hS) ?_; clear hK hn
  obtain ⟨A0, n0, c0, rfl⟩ := ho0.shape
  obtain ⟨A1, n1, c1, rfl⟩ := ho1.shape
  obtain ⟨A2, n2, c2, rfl⟩ := ho2.shape
  obtain ⟨A3, n3, c3, rfl⟩ := ho3.shape
  obtain ⟨A4, n4, c4, rfl⟩ := ho4.shape
  obtain ⟨A5, n5, c5, rfl⟩ := ho5.shape
  refine rg_one rfl rfl ?_; intro K hK; go_simp
  have hd : Below wc.heap.size wc (wc.alloc (.cells #[.slice A0 n0 c0, .slice A1 n1 c1, .slice A2 n2 c2, .slice A3 n3 c3, .slice A4 n4 c4, .slice A5 n5 c5, .slice (some ⟨w0.heap.size, 0, none⟩) n (n + 5)] 24)) := (Below.refl _ _).alloc (Nat.le_refl _) _
  have hbl : Blk (wc.alloc (.cells #[.slice A0 n0 c0, .slice A1 n1 c1, .slice A2 n2 c2, .slice A3 n3 c3, .slice A4 n4 c4, .slice A5 n5 c5, .slice (some ⟨w0.heap.size, 0, none⟩) n (n + 5)] 24)) wc.heap.size 24 [.slice A0 n0 c0, .slice A1 n1 c1, .slice A2 n2 c2, .slice A3 n3 c3, .slice A4 n4 c4, .slice A5 n5 c5, .slice (some ⟨w0.heap.size, 0, none⟩) n (n + 5)] := Blk.new _ _ _
  refine hK _ _ (fun _ => hS.trans (hd.mono hS.size)) ?_; clear hK
  have hS' := hS
  have hS := hS.trans (hd.mono hS.size)
  generalize (wc.alloc (.cells #[.slice A0 n0 c0, .slice A1 n1 c1, .slice A2 n2 c2, .slice A3 n3 c3, .slice A4 n4 c4, .slice A5 n5 c5, .slice (some ⟨w0.heap.size, 0, none⟩) n (n + 5)] 24)) = wd at *
  refine rg_take (v := ?v1_15) rfl rfl hS ?y1_15 ?_
  case y1_15 => intro W hW; (try subst hW); go_simp; try with_reducible rfl
  simp only [Act.put, List.setIfInBounds_toArray, List.set_cons_zero, List.set_cons_succ]
  refine rg_done (by kernel_rfl) ?_
  have hBd : Below w.heap.size w wd := hBb.trans (hS.mono hBb.size)
  have hbk := hbk.below hS hbk.lt
  have hba := hba.below hS hba.lt
  have hbb := hbb.below hS hbb.lt
  have hsv : Sl1 wd (.slice A n c) l := hsv.below hS
  have hwi : Within wb.heap.size wc.heap.size ([.slice A0 n0 c0] ++ ([.slice A1 n1 c1] ++ ([.slice A2 n2 c2] ++ ([.slice A3 n3 c3] ++ ([.slice A4 n4 c4] ++ [.slice A5 n5 c5]))))) :=
    (hlt0.out.mono (by simp) (Nat.le_refl _)).up (hlt1.out.up (hlt2.out.up (hlt3.out.up (hlt4.out.up hlt5.out))))
  have hsep : Sep wc.heap.size [.slice A0 n0 c0, .slice A1 n1 c1, .slice A2 n2 c2, .slice A3 n3 c3, .slice A4 n4 c4, .slice A5 n5 c5, .slice (some ⟨w0.heap.size, 0, none⟩) n (n + 5)] :=
    ((Within.one (v := .slice (some ⟨w0.heap.size, 0, none⟩) n (n + 5)) (Nat.le_of_lt hzp) (fun g hg => by simp [Value.ownBlock] at hg; omega)).down hwi).sep (Nat.le_refl _)
  have hrl : AllRd wc [.slice A0 n0 c0, .slice A1 n1 c1, .slice A2 n2 c2, .slice A3 n3 c3, .slice A4 n4 c4, .slice A5 n5 c5, .slice (some ⟨w0.heap.size, 0, none⟩) n (n + 5)] [[0], [0], 3 :: l, 1 :: (k ++ a), 2 :: (a ++ b), 1 :: (k ++ a), l] :=
    AllRd.cons ho0.sl1 (AllRd.cons ho1.sl1 (AllRd.cons ho2.sl1 (AllRd.cons ho3.sl1 (AllRd.cons ho4.sl1 (AllRd.cons ho5.sl1 (AllRd.cons (hsp.below hS') (AllRd.nil _)))))))
  obtain ⟨s0, hf0, _⟩ := ho0.full
  obtain ⟨s1, hf1, _⟩ := ho1.full
  obtain ⟨s2, hf2, _⟩ := ho2.full
  obtain ⟨s3, hf3, _⟩ := ho3.full
  obtain ⟨s4, hf4, _⟩ := ho4.full
  obtain ⟨s5, hf5, _⟩ := ho5.full
  have hf6 : Full wc (.slice (some ⟨w0.heap.size, 0, none⟩) n (n + 5)) (lentAll l) := .inr ⟨w0.heap.size, n, by have := HL.out; simp [lentAll, this], by have := HL.out; simp [lentAll]; omega, by have := HL.out; unfold maxLen; simp [lentAll]; omega, hbp.below hS' hbp.lt⟩
  have hfl : AllFull wc [.slice A0 n0 c0, .slice A1 n1 c1, .slice A2 n2 c2, .slice A3 n3 c3, .slice A4 n4 c4, .slice A5 n5 c5, .slice (some ⟨w0.heap.size, 0, none⟩) n (n + 5)] [[0] ++ s0, [0] ++ s1, 3 :: l ++ s2, 1 :: (k ++ a) ++ s3, 2 :: (a ++ b) ++ s4, 1 :: (k ++ a) ++ s5, lentAll l] :=
    AllFull.cons hf0 (AllFull.cons hf1 (AllFull.cons hf2 (AllFull.cons hf3 (AllFull.cons hf4 (AllFull.cons hf5 (AllFull.cons hf6 (AllFull.nil _)))))))
  generalize hvs : [Value.slice A0 n0 c0, .slice A1 n1 c1, .slice A2 n2 c2, .slice A3 n3 c3, .slice A4 n4 c4, .slice A5 n5 c5, .slice (some ⟨w0.heap.size, 0, none⟩) n (n + 5)] = vs at *
  generalize hLs : [[0] ++ s0, [0] ++ s1, 3 :: l ++ s2, 1 :: (k ++ a) ++ s3, 2 :: (a ++ b) ++ s4, 1 :: (k ++ a) ++ s5, lentAll l] = Ls at *
  have hvl : Hid (vs.length = 7) := by rw [← hvs]; rfl
  have hLl : Hid (Ls.length = 7) := by rw [← hLs]; rfl
  clear hvs hLs hf0 hf1 hf2 hf3 hf4 hf5 hf6 hwi
  have hrl := hrl.below hd
  have hfl := hfl.below (by rw [hvl.out, hLl.out]) hd
  clear ho0 ho1 ho2 ho3 ho4 ho5 hlt0 hlt1 hlt2 hlt3 hlt4 hlt5 hd
  generalize wc.heap.size = gl at *
  go_wp2_with fail
  refine rg_begin (Below wd.heap.size wd) [] [0, 1, 3, 4, 7, 10, 13, 15] [2, 5, 6, 8, 9, 11, 12, 14] 9 mixed (by kernel_rfl) (fun _ _ _ _ e hh => ⟨e.symm.trans hh.1, hh.2⟩) ?_
  simp only [pick, List.map_cons, List.map_nil, List.getD_cons_zero, List.getD_cons_succ]
  have hS : (Below wd.heap.size wd) _ := (Below.refl _ _).drew
  generalize wd.drew = wc at *
  refine rg_take (v := ?v2_2) rfl rfl hS ?y2_2 ?_
  case y2_2 => intro W hW; (try subst hW); go_simp; try with_reducible rfl
  simp only [Act.put, List.setIfInBounds_toArray, List.set_cons_zero, List.set_cons_succ]
  refine rg_take rfl rfl hS (fun W hW => exec_load_agg at23 (.tmp 4) rfl w.heap.size 23 _ rfl (hbk.below hW hbk.lt) (by rw [bvs_length]; exact HK.out)) ?_
  simp only [Act.put, List.setIfInBounds_toArray, List.set_cons_zero, List.set_cons_succ]
  refine rg_take rfl rfl hS (fun W hW => exec_load_agg at25 (.tmp 6) rfl (w.heap.size + 1) 25 _ rfl (hba.below hW hba.lt) (by rw [bvs_length]; exact HA.out)) ?_
  simp only [Act.put, List.setIfInBounds_toArray, List.set_cons_zero, List.set_cons_succ]
  refine rg_take rfl rfl hS (fun W hW => exec_load_agg at25 (.tmp 6) rfl (w.heap.size + 1) 25 _ rfl (hba.below hW hba.lt) (by rw [bvs_length]; exact HA.out)) ?_
  simp only [Act.put, List.setIfInBounds_toArray, List.set_cons_zero, List.set_cons_succ]
  refine rg_take rfl rfl hS (fun W hW => exec_load_agg at25 (.tmp 7) rfl (w.heap.size + 2) 25 _ rfl (hbb.below hW hbb.lt) (by rw [bvs_length]; exact HB.out)) ?_
  simp only [Act.put, List.setIfInBounds_toArray, List.set_cons_zero, List.set_cons_succ]
  refine rg_take rfl rfl hS (fun W hW => exec_load_agg at23 (.tmp 4) rfl w.heap.size 23 _ rfl (hbk.below hW hbk.lt) (by rw [bvs_length]; exact HK.out)) ?_
  simp only [Act.put, List.setIfInBounds_toArray, List.set_cons_zero, List.set_cons_succ]
  refine rg_take rfl rfl hS (fun W hW => exec_load_agg at25 (.tmp 6) rfl (w.heap.size + 1) 25 _ rfl (hba.below hW hba.lt) (by rw [bvs_length]; exact HA.out)) ?_
  simp only [Act.put, List.setIfInBounds_toArray, List.set_cons_zero, List.set_cons_succ]
  refine rg_take (v := ?v2_14) rfl rfl hS ?y2_14 ?_
  case y2_14 => intro W hW; (try subst hW); go_simp; try with_reducible rfl
  simp only [Act.put, List.setIfInBounds_toArray, List.set_cons_zero, List.set_cons_succ]
  refine rg_fork [0, 3] (by kernel_rfl) ?_
  simp only [pick, List.map_cons, List.map_nil, List.getD_cons_zero, List.getD_cons_succ]
  refine ⟨⟨rfl, ?_⟩, ⟨rfl, ?_⟩, trivial⟩
  · intro K hK; go_simp
    refine (rtext 0 none 0 0 [] [] _ rfl (Rd.nil _ _) (AllRd.nil _) (by simp) (by simp)).mono ?_
    rintro e wc ⟨u0, rfl, hu0, hn⟩
    have hS := hS.trans (hn.mono hS.size)
    obtain ⟨B0, m0, d0, rfl⟩ := hu0.shape
    (try (have hbx := hbx.below hn hbx.lt))
    (try (have hsx := hsx.below hn))
    refine hK _ _ (fun _ => hS) ?_; clear hK hn
    refine rg_fork [1, 3] (by kernel_rfl) ?_
    simp only [pick, List.map_cons, List.map_nil, List.getD_cons_zero, List.getD_cons_succ]
    refine ⟨⟨rfl, ?_⟩, ⟨rfl, ?_⟩, trivial⟩
    · intro K hK; go_simp
      refine (rtext 0 none 0 0 [] [] _ rfl (Rd.nil _ _) (AllRd.nil _) (by simp) (by simp)).mono ?_
      rintro e wc ⟨u1, rfl, hu1, hn⟩
      have hS := hS.trans (hn.mono hS.size)
      obtain ⟨B1, m1, d1, rfl⟩ := hu1.shape
      (try (have hu0 := hu0.below hn (Nat.le_refl _)))
      (try (have hbx := hbx.below hn hbx.lt))
      (try (have hsx := hsx.below hn))
      refine hK _ _ (fun _ => hS) ?_; clear hK hn
      refine rg_more [3, 4, 7, 10, 13, 15, 16] 0 (by kernel_rfl) ?_
      simp only [pick, List.map_cons, List.map_nil, List.getD_cons_zero, List.getD_cons_succ]
      refine rg_one rfl rfl ?_; intro K hK; go_simp
      have hn : Below wc.heap.size wc (wc.alloc (.cells #[.slice A n c] 24)) := (Below.refl _ _).alloc (Nat.le_refl _) _
      have hbx : Blk (wc.alloc (.cells #[.slice A n c] 24)) wc.heap.size 24 [.slice A n c] := Blk.new _ _ _
      have hS := hS.trans (hn.mono hS.size)
      (try (have hu0 := hu0.below hn (Nat.le_refl _)))
      (try (have hu1 := hu1.below hn (Nat.le_refl _)))
      have hsx := hsv.below hS
      refine hK _ _ (fun _ => hS) ?_; clear hK hn
      generalize (wc.alloc (.cells #[.slice A n c] 24)) = wn at *
      generalize wc.heap.size = gx at *
      rename World => wc
      refine rg_one rfl rfl ?_; intro K hK; go_simp
      refine (rtext 3 (some ⟨gx, 0, none⟩) 1 1 [.slice A n c] [l] _ rfl (Rd.one_blk hbx) (AllRd.cons hsx (AllRd.nil _)) (by simp) (by have := HL.out; simp; omega)).mono ?_
      rintro e wc ⟨u2, rfl, hu2, hn⟩
      have hS := hS.trans (hn.mono hS.size)
      obtain ⟨B2, m2, d2, rfl⟩ := hu2.shape
      (try (have hu0 := hu0.below hn (Nat.le_refl _)))
      (try (have hu1 := hu1.below hn (Nat.le_refl _)))
      (try (have hbx := hbx.below hn hbx.lt))
      (try (have hsx := hsx.below hn))
      refine hK _ _ (fun _ => hS) ?_; clear hK hn
      refine rg_one rfl rfl ?_; intro K hK; go_simp
      refine (rleaf_text k a _ HK.out HA.out).mono ?_
      rintro e wc ⟨u3, rfl, hu3, hn⟩
      have hS := hS.trans (hn.mono hS.size)
      obtain ⟨B3, m3, d3, rfl⟩ := hu3.shape
      (try (have hu0 := hu0.below hn (Nat.le_refl _)))
      (try (have hu1 := hu1.below hn (Nat.le_refl _)))
      (try (have hu2 := hu2.below hn (Nat.le_refl _)))
      (try (have hbx := hbx.below hn hbx.lt))
      (try (have hsx := hsx.below hn))
      refine hK _ _ (fun _ => hS) ?_; clear hK hn
      refine rg_one rfl rfl ?_; intro K hK; go_simp
      refine (rinner_text a b _ HA.out HB.out).mono ?_
      rintro e wc ⟨u4, rfl, hu4, hn⟩
      have hS := hS.trans (hn.mono hS.size)
      obtain ⟨B4, m4, d4, rfl⟩ := hu4.shape
      (try (have hu0 := hu0.below hn (Nat.le_refl _)))
      (try (have hu1 := hu1.below hn (Nat.le_refl _)))
      (try (have hu2 := hu2.below hn (Nat.le_refl _)))
      (try (have hu3 := hu3.below hn (Nat.le_refl _)))
      (try (have hbx := hbx.below hn hbx.lt))
      (try (have hsx := hsx.below hn))
      refine hK _ _ (fun _ => hS) ?_; clear hK hn
      refine rg_one rfl rfl ?_; intro K hK; go_simp
      refine (rleaf_text k a _ HK.out HA.out).mono ?_
      rintro e wc ⟨u5, rfl, hu5, hn⟩
      have hS := hS.trans (hn.mono hS.size)
      obtain ⟨B5, m5, d5, rfl⟩ := hu5.shape
      (try (have hu0 := hu0.below hn (Nat.le_refl _)))
      (try (have hu1 := hu1.below hn (Nat.le_refl _)))
      (try (have hu2 := hu2.below hn (Nat.le_refl _)))
      (try (have hu3 := hu3.below hn (Nat.le_refl _)))
      (try (have hu4 := hu4.below hn (Nat.le_refl _)))
      (try (have hbx := hbx.below hn hbx.lt))
      (try (have hsx := hsx.below hn))
      refine hK _ _ (fun _ => hS) ?_; clear hK hn
      refine rg_one rfl rfl ?_; intro K hK; go_simp
      have hd : Below wc.heap.size wc (wc.alloc (.cells #[.slice B0 m0 d0, .slice B1 m1 d1, .slice B2 m2 d2, .slice B3 m3 d3, .slice B4 m4 d4, .slice B5 m5 d5, .slice A n c] 24)) := (Below.refl _ _).alloc (Nat.le_refl _) _
      have hbu : Blk (wc.alloc (.cells #[.slice B0 m0 d0, .slice B1 m1 d1, .slice B2 m2 d2, .slice B3 m3 d3, .slice B4 m4 d4, .slice B5 m5 d5, .slice A n c] 24)) wc.heap.size 24 [.slice B0 m0 d0, .slice B1 m1 d1, .slice B2 m2 d2, .slice B3 m3 d3, .slice B4 m4 d4, .slice B5 m5 d5, .slice A n c] := Blk.new _ _ _
      have hru : AllRd wc [.slice B0 m0 d0, .slice B1 m1 d1, .slice B2 m2 d2, .slice B3 m3 d3, .slice B4 m4 d4, .slice B5 m5 d5, .slice A n c] [[0], [0], 3 :: l, 1 :: (k ++ a), 2 :: (a ++ b), 1 :: (k ++ a), l] :=
        AllRd.cons hu0.sl1 (AllRd.cons hu1.sl1 (AllRd.cons (by simpa using hu2.sl1) (AllRd.cons hu3.sl1 (AllRd.cons hu4.sl1 (AllRd.cons hu5.sl1 (AllRd.cons (hsv.below hS) (AllRd.nil _)))))))
      have hru := hru.below hd
      have hS := hS.trans (hd.mono hS.size)
      refine hK _ _ (fun _ => hS) ?_; clear hK
      generalize (wc.alloc (.cells #[.slice B0 m0 d0, .slice B1 m1 d1, .slice B2 m2 d2, .slice B3 m3 d3, .slice B4 m4 d4, .slice B5 m5 d5, .slice A n c] 24)) = wz at *
      generalize [Value.slice B0 m0 d0, .slice B1 m1 d1, .slice B2 m2 d2, .slice B3 m3 d3, .slice B4 m4 d4, .slice B5 m5 d5, .slice A n c] = us at *
      generalize wc.heap.size = gu at *
      refine rg_take (v := ?v4_16) rfl rfl hS ?y4_16 ?_
      case y4_16 => intro W hW; (try subst hW); go_simp; try with_reducible rfl
      simp only [Act.put, List.setIfInBounds_toArray, List.set_cons_zero, List.set_cons_succ]
      refine rg_done (by kernel_rfl) ?_
      have hrl := hrl.below hS
      have hfl := hfl.below (by rw [hvl.out, hLl.out]) hS
      have hbl := hbl.below hS hbl.lt
      have hBz : Below w.heap.size w wz := hBd.trans (hS.mono hBd.size)
      have hul : Hid (us.length = 7) := hru.1
      clear hu0 hu1 hu2 hu3 hu4 hu5 hbk hba hbb hsv hr hB0 hwp hbp hsp
      generalize hls : [[0], [0], 3 :: l, 1 :: (k ++ a), 2 :: (a ++ b), 1 :: (k ++ a), l] = ls at *
      have hll : Hid (ls.length = 7) := by rw [← hls]; rfl
      clear hls
      go_wp2_with fail
      go_loopw [12] (fun i wr => ∃ q : Nat, q ≤ 7 ∧ i = .int .i64 (q : Int) ∧ Below wz.heap.size wz wr) (fun i _ => 7 - (intOf i).toNat)
      case atStart => exact ⟨0, by omega, by go_num, Below.refl _ _⟩
      case round =>
        obtain ⟨q, hq, rfl, hwr⟩ := hrel
        by_cases hlt : q < 7
        · obtain ⟨v, hv⟩ : ∃ v, vs[q]? = some v := ⟨_, List.getElem?_eq_getElem (by have := hvl.out; omega)⟩
          obtain ⟨u, hu⟩ : ∃ u, us[q]? = some u := ⟨_, List.getElem?_eq_getElem (by have := hul.out; omega)⟩
          obtain ⟨x, hx⟩ : ∃ x, ls[q]? = some x := ⟨_, List.getElem?_eq_getElem (by have := hll.out; omega)⟩
          obtain ⟨A1, d1, rfl, hd1, hr1⟩ := hrl.2 q v x hv hx
          obtain ⟨A2, d2, rfl, hd2, hr2⟩ := hru.2 q u x hu hx
          have hc1 : wr.cell? ⟨gl, q, none⟩ = some (.slice A1 x.length d1) := by rw [(Blk.below hbl hwr hbl.lt).cell]; exact hv
          have hc2 : wr.cell? ⟨gu, q, none⟩ = some (.slice A2 x.length d2) := by rw [(Blk.below hbu hwr hbu.lt).cell]; exact hu
          clear hv hu hx
          go_wp2_with fail
          refine rg_begin (fun W => W = wr.drew) [] [8] [0, 1, 2, 3, 4, 5, 6, 7, 8, 9] 0 mixed (by kernel_rfl) (fun _ _ _ _ e hh => ⟨e.symm.trans hh.1, hh.2⟩) ?_
          simp only [pick, List.map_cons, List.map_nil, List.getD_cons_zero, List.getD_cons_succ]
          have hR : (fun W => W = wr.drew) _ := rfl
          refine rg_take (v := ?v7_0) rfl rfl hR ?y7_0 ?_
          case y7_0 => intro W hW; (try subst hW); go_simp; try with_reducible rfl
          simp only [Act.put, List.setIfInBounds_toArray, List.set_cons_zero, List.set_cons_succ]
          refine rg_take (v := ?v7_1) rfl rfl hR ?y7_1 ?_
          case y7_1 => intro W hW; (try subst hW); go_simp; try with_reducible rfl
          simp only [Act.put, List.setIfInBounds_toArray, List.set_cons_zero, List.set_cons_succ]
          refine rg_take (v := ?v7_2) rfl rfl hR ?y7_2 ?_
          case y7_2 => intro W hW; (try subst hW); go_simp; try with_reducible rfl
          simp only [Act.put, List.setIfInBounds_toArray, List.set_cons_zero, List.set_cons_succ]
          refine rg_take (v := ?v7_3) rfl rfl hR ?y7_3 ?_
          case y7_3 => intro W hW; (try subst hW); go_simp; try with_reducible rfl
          simp only [Act.put, List.setIfInBounds_toArray, List.set_cons_zero, List.set_cons_succ]
          refine rg_take (v := ?v7_4) rfl rfl hR ?y7_4 ?_
          case y7_4 => intro W hW; (try subst hW); go_simp; try with_reducible rfl
          simp only [Act.put, List.setIfInBounds_toArray, List.set_cons_zero, List.set_cons_succ]
          refine rg_take (v := ?v7_5) rfl rfl hR ?y7_5 ?_
          case y7_5 => intro W hW; (try subst hW); go_simp; try with_reducible rfl
          simp only [Act.put, List.setIfInBounds_toArray, List.set_cons_zero, List.set_cons_succ]
          refine rg_take (v := ?v7_6) rfl rfl hR ?y7_6 ?_
          case y7_6 => intro W hW; (try subst hW); go_simp; try with_reducible rfl
          simp only [Act.put, List.setIfInBounds_toArray, List.set_cons_zero, List.set_cons_succ]
          refine rg_take (v := ?v7_7) rfl rfl hR ?y7_7 ?_
          case y7_7 => intro W hW; (try subst hW); go_simp; try with_reducible rfl
          simp only [Act.put, List.setIfInBounds_toArray, List.set_cons_zero, List.set_cons_succ]
          refine rg_one rfl rfl ?_; intro K hK; go_simp
          refine (same_bytes A1 x.length d1 x A2 x.length d2 x _ (hr1.below hwr.drew) rfl (hr2.below hwr.drew) rfl).mono ?_
          rintro e wn ⟨rfl, rfl⟩
          refine hK _ _ (fun _ => hR) ?_; clear hK
          refine rg_take (v := ?v7_9) rfl rfl hR ?y7_9 ?_
          case y7_9 => intro W hW; (try subst hW); go_simp; try with_reducible rfl
          simp only [Act.put, List.setIfInBounds_toArray, List.set_cons_zero, List.set_cons_succ]
          refine rg_done (by kernel_rfl) ?_
          go_wp2_with fail
          go_roundw
          case rel => exact ⟨q + 1, by omega, by go_num, hwr.drew⟩
          case measure => simp [intOf]; omega
        · go_wp2_with fail
          refine (apart_bytes' gl 7 7 vs Ls wr hLl.out (Rd.of_blk0 (es := []) (by simpa using Blk.below hbl hwr hbl.lt)) (by rw [hvl.out, hLl.out]) (hfl.below (by rw [hvl.out, hLl.out]) hwr) hsep (by rw [hLl.out]; omega)).mono ?_
          rintro e wn ⟨rfl, hn⟩
          go_wp2_with fail
          go_ret
          exact ⟨rfl, hBz.trans ((hwr.trans (hn.mono hwr.size)).mono hBz.size)⟩
    · intro K hK; go_simp
      have hn : Below wc.heap.size wc (wc.alloc (.cells #[.slice A n c] 24)) := (Below.refl _ _).alloc (Nat.le_refl _) _
      have hbx : Blk (wc.alloc (.cells #[.slice A n c] 24)) wc.heap.size 24 [.slice A n c] := Blk.new _ _ _
      have hS := hS.trans (hn.mono hS.size)
      (try (have hu0 := hu0.below hn (Nat.le_refl _)))
      (try (have hu1 := hu1.below hn (Nat.le_refl _)))
      have hsx := hsv.below hS
      refine hK _ _ (fun _ => hS) ?_; clear hK hn
      generalize (wc.alloc (.cells #[.slice A n c] 24)) = wn at *
      generalize wc.heap.size = gx at *
      rename World => wc
      refine rg_more [1, 4, 7, 10, 13, 15, 16] 0 (by kernel_rfl) ?_
      simp only [pick, List.map_cons, List.map_nil, List.getD_cons_zero, List.getD_cons_succ]
      refine rg_one rfl rfl ?_; intro K hK; go_simp
      refine (rtext 0 none 0 0 [] [] _ rfl (Rd.nil _ _) (AllRd.nil _) (by simp) (by simp)).mono ?_
      rintro e wc ⟨u1, rfl, hu1, hn⟩
      have hS := hS.trans (hn.mono hS.size)
      obtain ⟨B1, m1, d1, rfl⟩ := hu1.shape
      (try (have hu0 := hu0.below hn (Nat.le_refl _)))
      (try (have hbx := hbx.below hn hbx.lt))
      (try (have hsx := hsx.below hn))
      refine hK _ _ (fun _ => hS) ?_; clear hK hn
      refine rg_one rfl rfl ?_; intro K hK; go_simp
      refine (rtext 3 (some ⟨gx, 0, none⟩) 1 1 [.slice A n c] [l] _ rfl (Rd.one_blk hbx) (AllRd.cons hsx (AllRd.nil _)) (by simp) (by have := HL.out; simp; omega)).mono ?_
      rintro e wc ⟨u2, rfl, hu2, hn⟩
      have hS := hS.trans (hn.mono hS.size)
      obtain ⟨B2, m2, d2, rfl⟩ := hu2.shape
      (try (have hu0 := hu0.below hn (Nat.le_refl _)))
      (try (have hu1 := hu1.below hn (Nat.le_refl _)))
      (try (have hbx := hbx.below hn hbx.lt))
      (try (have hsx := hsx.below hn))
      refine hK _ _ (fun _ => hS) ?_; clear hK hn
      refine rg_one rfl rfl ?_; intro K hK; go_simp
      refine (rleaf_text k a _ HK.out HA.out).mono ?_
      rintro e wc ⟨u3, rfl, hu3, hn⟩
      have hS := hS.trans (hn.mono hS.size)
      obtain ⟨B3, m3, d3, rfl⟩ := hu3.shape
      (try (have hu0 := hu0.below hn (Nat.le_refl _)))
      (try (have hu1 := hu1.below hn (Nat.le_refl _)))
      (try (have hu2 := hu2.below hn (Nat.le_refl _)))
      (try (have hbx := hbx.below hn hbx.lt))
      (try (have hsx := hsx.below hn))
      refine hK _ _ (fun _ => hS) ?_; clear hK hn
      refine rg_one rfl rfl ?_; intro K hK; go_simp
      refine (rinner_text a b _ HA.out HB.out).mono ?_
      rintro e wc ⟨u4, rfl, hu4, hn⟩
      have hS := hS.trans (hn.mono hS.size)
      obtain ⟨B4, m4, d4, rfl⟩ := hu4.shape
      (try (have hu0 := hu0.below hn (Nat.le_refl _)))
      (try (have hu1 := hu1.below hn (Nat.le_refl _)))
      (try (have hu2 := hu2.below hn (Nat.le_refl _)))
      (try (have hu3 := hu3.below hn (Nat.le_refl _)))
      (try (have hbx := hbx.below hn hbx.lt))
      (try (have hsx := hsx.below hn))
      refine hK _ _ (fun _ => hS) ?_; clear hK hn
      refine rg_one rfl rfl ?_; intro K hK; go_simp
      refine (rleaf_text k a _ HK.out HA.out).mono ?_
      rintro e wc ⟨u5, rfl, hu5, hn⟩
      have hS := hS.trans (hn.mono hS.size)
      obtain ⟨B5, m5, d5, rfl⟩ := hu5.shape
      (try (have hu0 := hu0.below hn (Nat.le_refl _)))
      (try (have hu1 := hu1.below hn (Nat.le_refl _)))
      (try (have hu2 := hu2.below hn (Nat.le_refl _)))
      (try (have hu3 := hu3.below hn (Nat.le_refl _)))
      (try (have hu4 := hu4.below hn (Nat.le_refl _)))
      (try (have hbx := hbx.below hn hbx.lt))
      (try (have hsx := hsx.below hn))
      refine hK _ _ (fun _ => hS) ?_; clear hK hn
      refine rg_one rfl rfl ?_; intro K hK; go_simp
      have hd : Below wc.heap.size wc (wc.alloc (.cells #[.slice B0 m0 d0, .slice B1 m1 d1, .slice B2 m2 d2, .slice B3 m3 d3, .slice B4 m4 d4, .slice B5 m5 d5, .slice A n c] 24)) := (Below.refl _ _).alloc (Nat.le_refl _) _
      have hbu : Blk (wc.alloc (.cells #[.slice B0 m0 d0, .slice B1 m1 d1, .slice B2 m2 d2, .slice B3 m3 d3, .slice B4 m4 d4, .slice B5 m5 d5, .slice A n c] 24)) wc.heap.size 24 [.slice B0 m0 d0, .slice B1 m1 d1, .slice B2 m2 d2, .slice B3 m3 d3, .slice B4 m4 d4, .slice B5 m5 d5, .slice A n c] := Blk.new _ _ _
      have hru : AllRd wc [.slice B0 m0 d0, .slice B1 m1 d1, .slice B2 m2 d2, .slice B3 m3 d3, .slice B4 m4 d4, .slice B5 m5 d5, .slice A n c] [[0], [0], 3 :: l, 1 :: (k ++ a), 2 :: (a ++ b), 1 :: (k ++ a), l] :=
        AllRd.cons hu0.sl1 (AllRd.cons hu1.sl1 (AllRd.cons (by simpa using hu2.sl1) (AllRd.cons hu3.sl1 (AllRd.cons hu4.sl1 (AllRd.cons hu5.sl1 (AllRd.cons (hsv.below hS) (AllRd.nil _)))))))
      have hru := hru.below hd
      have hS := hS.trans (hd.mono hS.size)
      refine hK _ _ (fun _ => hS) ?_; clear hK
      generalize (wc.alloc (.cells #[.slice B0 m0 d0, .slice B1 m1 d1, .slice B2 m2 d2, .slice B3 m3 d3, .slice B4 m4 d4, .slice B5 m5 d5, .slice A n c] 24)) = wz at *
      generalize [Value.slice B0 m0 d0, .slice B1 m1 d1, .slice B2 m2 d2, .slice B3 m3 d3, .slice B4 m4 d4, .slice B5 m5 d5, .slice A n c] = us at *
      generalize wc.heap.size = gu at *
      refine rg_take (v := ?v5_16) rfl rfl hS ?y5_16 ?_
      case y5_16 => intro W hW; (try subst hW); go_simp; try with_reducible rfl
      simp only [Act.put, List.setIfInBounds_toArray, List.set_cons_zero, List.set_cons_succ]
      refine rg_done (by kernel_rfl) ?_
      have hrl := hrl.below hS
      have hfl := hfl.below (by rw [hvl.out, hLl.out]) hS
      have hbl := hbl.below hS hbl.lt
      have hBz : Below w.heap.size w wz := hBd.trans (hS.mono hBd.size)
      have hul : Hid (us.length = 7) := hru.1
      clear hu0 hu1 hu2 hu3 hu4 hu5 hbk hba hbb hsv hr hB0 hwp hbp hsp
      generalize hls : [[0], [0], 3 :: l, 1 :: (k ++ a), 2 :: (a ++ b), 1 :: (k ++ a), l] = ls at *
      have hll : Hid (ls.length = 7) := by rw [← hls]; rfl
      clear hls
      go_wp2_with fail
      go_loopw [12] (fun i wr => ∃ q : Nat, q ≤ 7 ∧ i = .int .i64 (q : Int) ∧ Below wz.heap.size wz wr) (fun i _ => 7 - (intOf i).toNat)
      case atStart => exact ⟨0, by omega, by go_num, Below.refl _ _⟩
      case round =>
        obtain ⟨q, hq, rfl, hwr⟩ := hrel
        by_cases hlt : q < 7
        · obtain ⟨v, hv⟩ : ∃ v, vs[q]? = some v := ⟨_, List.getElem?_eq_getElem (by have := hvl.out; omega)⟩
          obtain ⟨u, hu⟩ : ∃ u, us[q]? = some u := ⟨_, List.getElem?_eq_getElem (by have := hul.out; omega)⟩
          obtain ⟨x, hx⟩ : ∃ x, ls[q]? = some x := ⟨_, List.getElem?_eq_getElem (by have := hll.out; omega)⟩
          obtain ⟨A1, d1, rfl, hd1, hr1⟩ := hrl.2 q v x hv hx
          obtain ⟨A2, d2, rfl, hd2, hr2⟩ := hru.2 q u x hu hx
          have hc1 : wr.cell? ⟨gl, q, none⟩ = some (.slice A1 x.length d1) := by rw [(Blk.below hbl hwr hbl.lt).cell]; exact hv
          have hc2 : wr.cell? ⟨gu, q, none⟩ = some (.slice A2 x.length d2) := by rw [(Blk.below hbu hwr hbu.lt).cell]; exact hu
          clear hv hu hx
          go_wp2_with fail
          refine rg_begin (fun W => W = wr.drew) [] [8] [0, 1, 2, 3, 4, 5, 6, 7, 8, 9] 0 mixed (by kernel_rfl) (fun _ _ _ _ e hh => ⟨e.symm.trans hh.1, hh.2⟩) ?_
          simp only [pick, List.map_cons, List.map_nil, List.getD_cons_zero, List.getD_cons_succ]
          have hR : (fun W => W = wr.drew) _ := rfl
          refine rg_take (v := ?v8_0) rfl rfl hR ?y8_0 ?_
          case y8_0 => intro W hW; (try subst hW); go_simp; try with_reducible rfl
          simp only [Act.put, List.setIfInBounds_toArray, List.set_cons_zero, List.set_cons_succ]
          refine rg_take (v := ?v8_1) rfl rfl hR ?y8_1 ?_
          case y8_1 => intro W hW; (try subst hW); go_simp; try with_reducible rfl
          simp only [Act.put, List.setIfInBounds_toArray, List.set_cons_zero, List.set_cons_succ]
          refine rg_take (v := ?v8_2) rfl rfl hR ?y8_2 ?_
          case y8_2 => intro W hW; (try subst hW); go_simp; try with_reducible rfl
          simp only [Act.put, List.setIfInBounds_toArray, List.set_cons_zero, List.set_cons_succ]
          refine rg_take (v := ?v8_3) rfl rfl hR ?y8_3 ?_
          case y8_3 => intro W hW; (try subst hW); go_simp; try with_reducible rfl
          simp only [Act.put, List.setIfInBounds_toArray, List.set_cons_zero, List.set_cons_succ]
          refine rg_take (v := ?v8_4) rfl rfl hR ?y8_4 ?_
          case y8_4 => intro W hW; (try subst hW); go_simp; try with_reducible rfl
          simp only [Act.put, List.setIfInBounds_toArray, List.set_cons_zero, List.set_cons_succ]
          refine rg_take (v := ?v8_5) rfl rfl hR ?y8_5 ?_
          case y8_5 => intro W hW; (try subst hW); go_simp; try with_reducible rfl
          simp only [Act.put, List.setIfInBounds_toArray, List.set_cons_zero, List.set_cons_succ]
          refine rg_take (v := ?v8_6) rfl rfl hR ?y8_6 ?_
          case y8_6 => intro W hW; (try subst hW); go_simp; try with_reducible rfl
          simp only [Act.put, List.setIfInBounds_toArray, List.set_cons_zero, List.set_cons_succ]
          refine rg_take (v := ?v8_7) rfl rfl hR ?y8_7 ?_
          case y8_7 => intro W hW; (try subst hW); go_simp; try with_reducible rfl
          simp only [Act.put, List.setIfInBounds_toArray, List.set_cons_zero, List.set_cons_succ]
          refine rg_one rfl rfl ?_; intro K hK; go_simp
          refine (same_bytes A1 x.length d1 x A2 x.length d2 x _ (hr1.below hwr.drew) rfl (hr2.below hwr.drew) rfl).mono ?_
          rintro e wn ⟨rfl, rfl⟩
          refine hK _ _ (fun _ => hR) ?_; clear hK
          refine rg_take (v := ?v8_9) rfl rfl hR ?y8_9 ?_
          case y8_9 => intro W hW; (try subst hW); go_simp; try with_reducible rfl
          simp only [Act.put, List.setIfInBounds_toArray, List.set_cons_zero, List.set_cons_succ]
          refine rg_done (by kernel_rfl) ?_
          go_wp2_with fail
          go_roundw
          case rel => exact ⟨q + 1, by omega, by go_num, hwr.drew⟩
          case measure => simp [intOf]; omega
        · go_wp2_with fail
          refine (apart_bytes' gl 7 7 vs Ls wr hLl.out (Rd.of_blk0 (es := []) (by simpa using Blk.below hbl hwr hbl.lt)) (by rw [hvl.out, hLl.out]) (hfl.below (by rw [hvl.out, hLl.out]) hwr) hsep (by rw [hLl.out]; omega)).mono ?_
          rintro e wn ⟨rfl, hn⟩
          go_wp2_with fail
          go_ret
          exact ⟨rfl, hBz.trans ((hwr.trans (hn.mono hwr.size)).mono hBz.size)⟩
  · intro K hK; go_simp
    have hn : Below wc.heap.size wc (wc.alloc (.cells #[.slice A n c] 24)) := (Below.refl _ _).alloc (Nat.le_refl _) _
    have hbx : Blk (wc.alloc (.cells #[.slice A n c] 24)) wc.heap.size 24 [.slice A n c] := Blk.new _ _ _
    have hS := hS.trans (hn.mono hS.size)
    (try (have hu0 := hu0.below hn (Nat.le_refl _)))
    (try (have hu1 := hu1.below hn (Nat.le_refl _)))
    have hsx := hsv.below hS
    refine hK _ _ (fun _ => hS) ?_; clear hK hn
    generalize (wc.alloc (.cells #[.slice A n c] 24)) = wn at *
    generalize wc.heap.size = gx at *
    rename World => wc
    refine rg_more [0, 1, 4, 7, 10, 13, 15, 16] 0 (by kernel_rfl) ?_
    simp only [pick, List.map_cons, List.map_nil, List.getD_cons_zero, List.getD_cons_succ]
    refine rg_one rfl rfl ?_; intro K hK; go_simp
    refine (rtext 0 none 0 0 [] [] _ rfl (Rd.nil _ _) (AllRd.nil _) (by simp) (by simp)).mono ?_
    rintro e wc ⟨u0, rfl, hu0, hn⟩
    have hS := hS.trans (hn.mono hS.size)
    obtain ⟨B0, m0, d0, rfl⟩ := hu0.shape
    (try (have hbx := hbx.below hn hbx.lt))
    (try (have hsx := hsx.below hn))
    refine hK _ _ (fun _ => hS) ?_; clear hK hn
    refine rg_one rfl rfl ?_; intro K hK; go_simp
    refine (rtext 0 none 0 0 [] [] _ rfl (Rd.nil _ _) (AllRd.nil _) (by simp) (by simp)).mono ?_
    rintro e wc ⟨u1, rfl, hu1, hn⟩
    have hS := hS.trans (hn.mono hS.size)
    obtain ⟨B1, m1, d1, rfl⟩ := hu1.shape
    (try (have hu0 := hu0.below hn (Nat.le_refl _)))
    (try (have hbx := hbx.below hn hbx.lt))
    (try (have hsx := hsx.below hn))
    refine hK _ _ (fun _ => hS) ?_; clear hK hn
    refine rg_one rfl rfl ?_; intro K hK; go_simp
    refine (rtext 3 (some ⟨gx, 0, none⟩) 1 1 [.slice A n c] [l] _ rfl (Rd.one_blk hbx) (AllRd.cons hsx (AllRd.nil _)) (by simp) (by have := HL.out; simp; omega)).mono ?_
    rintro e wc ⟨u2, rfl, hu2, hn⟩
    have hS := hS.trans (hn.mono hS.size)
    obtain ⟨B2, m2, d2, rfl⟩ := hu2.shape
    (try (have hu0 := hu0.below hn (Nat.le_refl _)))
    (try (have hu1 := hu1.below hn (Nat.le_refl _)))
    (try (have hbx := hbx.below hn hbx.lt))
    (try (have hsx := hsx.below hn))
    refine hK _ _ (fun _ => hS) ?_; clear hK hn
    refine rg_one rfl rfl ?_; intro K hK; go_simp
    refine (rleaf_text k a _ HK.out HA.out).mono ?_
    rintro e wc ⟨u3, rfl, hu3, hn⟩
    have hS := hS.trans (hn.mono hS.size)
    obtain ⟨B3, m3, d3, rfl⟩ := hu3.shape
    (try (have hu0 := hu0.below hn (Nat.le_refl _)))
    (try (have hu1 := hu1.below hn (Nat.le_refl _)))
    (try (have hu2 := hu2.below hn (Nat.le_refl _)))
    (try (have hbx := hbx.below hn hbx.lt))
    (try (have hsx := hsx.below hn))
    refine hK _ _ (fun _ => hS) ?_; clear hK hn
    refine rg_one rfl rfl ?_; intro K hK; go_simp
    refine (rinner_text a b _ HA.out HB.out).mono ?_
    rintro e wc ⟨u4, rfl, hu4, hn⟩
    have hS := hS.trans (hn.mono hS.size)
    obtain ⟨B4, m4, d4, rfl⟩ := hu4.shape
    (try (have hu0 := hu0.below hn (Nat.le_refl _)))
    (try (have hu1 := hu1.below hn (Nat.le_refl _)))
    (try (have hu2 := hu2.below hn (Nat.le_refl _)))
    (try (have hu3 := hu3.below hn (Nat.le_refl _)))
    (try (have hbx := hbx.below hn hbx.lt))
    (try (have hsx := hsx.below hn))
    refine hK _ _ (fun _ => hS) ?_; clear hK hn
    refine rg_one rfl rfl ?_; intro K hK; go_simp
    refine (rleaf_text k a _ HK.out HA.out).mono ?_
    rintro e wc ⟨u5, rfl, hu5, hn⟩
    have hS := hS.trans (hn.mono hS.size)
    obtain ⟨B5, m5, d5, rfl⟩ := hu5.shape
    (try (have hu0 := hu0.below hn (Nat.le_refl _)))
    (try (have hu1 := hu1.below hn (Nat.le_refl _)))
    (try (have hu2 := hu2.below hn (Nat.le_refl _)))
    (try (have hu3 := hu3.below hn (Nat.le_refl _)))
    (try (have hu4 := hu4.below hn (Nat.le_refl _)))
    (try (have hbx := hbx.below hn hbx.lt))
    (try (have hsx := hsx.below hn))
    refine hK _ _ (fun _ => hS) ?_; clear hK hn
    refine rg_one rfl rfl ?_; intro K hK; go_simp
    have hd : Below wc.heap.size wc (wc.alloc (.cells #[.slice B0 m0 d0, .slice B1 m1 d1, .slice B2 m2 d2, .slice B3 m3 d3, .slice B4 m4 d4, .slice B5 m5 d5, .slice A n c] 24)) := (Below.refl _ _).alloc (Nat.le_refl _) _
    have hbu : Blk (wc.alloc (.cells #[.slice B0 m0 d0, .slice B1 m1 d1, .slice B2 m2 d2, .slice B3 m3 d3, .slice B4 m4 d4, .slice B5 m5 d5, .slice A n c] 24)) wc.heap.size 24 [.slice B0 m0 d0, .slice B1 m1 d1, .slice B2 m2 d2, .slice B3 m3 d3, .slice B4 m4 d4, .slice B5 m5 d5, .slice A n c] := Blk.new _ _ _
    have hru : AllRd wc [.slice B0 m0 d0, .slice B1 m1 d1, .slice B2 m2 d2, .slice B3 m3 d3, .slice B4 m4 d4, .slice B5 m5 d5, .slice A n c] [[0], [0], 3 :: l, 1 :: (k ++ a), 2 :: (a ++ b), 1 :: (k ++ a), l] :=
      AllRd.cons hu0.sl1 (AllRd.cons hu1.sl1 (AllRd.cons (by simpa using hu2.sl1) (AllRd.cons hu3.sl1 (AllRd.cons hu4.sl1 (AllRd.cons hu5.sl1 (AllRd.cons (hsv.below hS) (AllRd.nil _)))))))
    have hru := hru.below hd
    have hS := hS.trans (hd.mono hS.size)
    refine hK _ _ (fun _ => hS) ?_; clear hK
    generalize (wc.alloc (.cells #[.slice B0 m0 d0, .slice B1 m1 d1, .slice B2 m2 d2, .slice B3 m3 d3, .slice B4 m4 d4, .slice B5 m5 d5, .slice A n c] 24)) = wz at *
    generalize [Value.slice B0 m0 d0, .slice B1 m1 d1, .slice B2 m2 d2, .slice B3 m3 d3, .slice B4 m4 d4, .slice B5 m5 d5, .slice A n c] = us at *
    generalize wc.heap.size = gu at *
    refine rg_take (v := ?v6_16) rfl rfl hS ?y6_16 ?_
    case y6_16 => intro W hW; (try subst hW); go_simp; try with_reducible rfl
    simp only [Act.put, List.setIfInBounds_toArray, List.set_cons_zero, List.set_cons_succ]
    refine rg_done (by kernel_rfl) ?_
    have hrl := hrl.below hS
    have hfl := hfl.below (by rw [hvl.out, hLl.out]) hS
    have hbl := hbl.below hS hbl.lt
    have hBz : Below w.heap.size w wz := hBd.trans (hS.mono hBd.size)
    have hul : Hid (us.length = 7) := hru.1
    clear hu0 hu1 hu2 hu3 hu4 hu5 hbk hba hbb hsv hr hB0 hwp hbp hsp
    generalize hls : [[0], [0], 3 :: l, 1 :: (k ++ a), 2 :: (a ++ b), 1 :: (k ++ a), l] = ls at *
    have hll : Hid (ls.length = 7) := by rw [← hls]; rfl
    clear hls
    go_wp2_with fail
    go_loopw [12] (fun i wr => ∃ q : Nat, q ≤ 7 ∧ i = .int .i64 (q : Int) ∧ Below wz.heap.size wz wr) (fun i _ => 7 - (intOf i).toNat)
    case atStart => exact ⟨0, by omega, by go_num, Below.refl _ _⟩
    case round =>
      obtain ⟨q, hq, rfl, hwr⟩ := hrel
      by_cases hlt : q < 7
      · obtain ⟨v, hv⟩ : ∃ v, vs[q]? = some v := ⟨_, List.getElem?_eq_getElem (by have := hvl.out; omega)⟩
        obtain ⟨u, hu⟩ : ∃ u, us[q]? = some u := ⟨_, List.getElem?_eq_getElem (by have := hul.out; omega)⟩
        obtain ⟨x, hx⟩ : ∃ x, ls[q]? = some x := ⟨_, List.getElem?_eq_getElem (by have := hll.out; omega)⟩
        obtain ⟨A1, d1, rfl, hd1, hr1⟩ := hrl.2 q v x hv hx
        obtain ⟨A2, d2, rfl, hd2, hr2⟩ := hru.2 q u x hu hx
        have hc1 : wr.cell? ⟨gl, q, none⟩ = some (.slice A1 x.length d1) := by rw [(Blk.below hbl hwr hbl.lt).cell]; exact hv
        have hc2 : wr.cell? ⟨gu, q, none⟩ = some (.slice A2 x.length d2) := by rw [(Blk.below hbu hwr hbu.lt).cell]; exact hu
        clear hv hu hx
        go_wp2_with fail
        refine rg_begin (fun W => W = wr.drew) [] [8] [0, 1, 2, 3, 4, 5, 6, 7, 8, 9] 0 mixed (by kernel_rfl) (fun _ _ _ _ e hh => ⟨e.symm.trans hh.1, hh.2⟩) ?_
        simp only [pick, List.map_cons, List.map_nil, List.getD_cons_zero, List.getD_cons_succ]
        have hR : (fun W => W = wr.drew) _ := rfl
        refine rg_take (v := ?v9_0) rfl rfl hR ?y9_0 ?_
        case y9_0 => intro W hW; (try subst hW); go_simp; try with_reducible rfl
        simp only [Act.put, List.setIfInBounds_toArray, List.set_cons_zero, List.set_cons_succ]
        refine rg_take (v := ?v9_1) rfl rfl hR ?y9_1 ?_
        case y9_1 => intro W hW; (try subst hW); go_simp; try with_reducible rfl
        simp only [Act.put, List.setIfInBounds_toArray, List.set_cons_zero, List.set_cons_succ]
        refine rg_take (v := ?v9_2) rfl rfl hR ?y9_2 ?_
        case y9_2 => intro W hW; (try subst hW); go_simp; try with_reducible rfl
        simp only [Act.put, List.setIfInBounds_toArray, List.set_cons_zero, List.set_cons_succ]
        refine rg_take (v := ?v9_3) rfl rfl hR ?y9_3 ?_
        case y9_3 => intro W hW; (try subst hW); go_simp; try with_reducible rfl
        simp only [Act.put, List.setIfInBounds_toArray, List.set_cons_zero, List.set_cons_succ]
        refine rg_take (v := ?v9_4) rfl rfl hR ?y9_4 ?_
        case y9_4 => intro W hW; (try subst hW); go_simp; try with_reducible rfl
        simp only [Act.put, List.setIfInBounds_toArray, List.set_cons_zero, List.set_cons_succ]
        refine rg_take (v := ?v9_5) rfl rfl hR ?y9_5 ?_
        case y9_5 => intro W hW; (try subst hW); go_simp; try with_reducible rfl
        simp only [Act.put, List.setIfInBounds_toArray, List.set_cons_zero, List.set_cons_succ]
        refine rg_take (v := ?v9_6) rfl rfl hR ?y9_6 ?_
        case y9_6 => intro W hW; (try subst hW); go_simp; try with_reducible rfl
        simp only [Act.put, List.setIfInBounds_toArray, List.set_cons_zero, List.set_cons_succ]
        refine rg_take (v := ?v9_7) rfl rfl hR ?y9_7 ?_
        case y9_7 => intro W hW; (try subst hW); go_simp; try with_reducible rfl
        simp only [Act.put, List.setIfInBounds_toArray, List.set_cons_zero, List.set_cons_succ]
        refine rg_one rfl rfl ?_; intro K hK; go_simp
        refine (same_bytes A1 x.length d1 x A2 x.length d2 x _ (hr1.below hwr.drew) rfl (hr2.below hwr.drew) rfl).mono ?_
        rintro e wn ⟨rfl, rfl⟩
        refine hK _ _ (fun _ => hR) ?_; clear hK
        refine rg_take (v := ?v9_9) rfl rfl hR ?y9_9 ?_
        case y9_9 => intro W hW; (try subst hW); go_simp; try with_reducible rfl
        simp only [Act.put, List.setIfInBounds_toArray, List.set_cons_zero, List.set_cons_succ]
        refine rg_done (by kernel_rfl) ?_
        go_wp2_with fail
        go_roundw
        case rel => exact ⟨q + 1, by omega, by go_num, hwr.drew⟩
        case measure => simp [intOf]; omega
      · go_wp2_with fail
        refine (apart_bytes' gl 7 7 vs Ls wr hLl.out (Rd.of_blk0 (es := []) (by simpa using Blk.below hbl hwr hbl.lt)) (by rw [hvl.out, hLl.out]) (hfl.below (by rw [hvl.out, hLl.out]) hwr) hsep (by rw [hLl.out]; omega)).mono ?_
        rintro e wn ⟨rfl, hn⟩
        go_wp2_with fail
        go_ret
        exact ⟨rfl, hBz.trans ((hwr.trans (hn.mono hwr.size)).mono hBz.size)⟩
end Go.Proofs.Ytehbahobkgoapaa
