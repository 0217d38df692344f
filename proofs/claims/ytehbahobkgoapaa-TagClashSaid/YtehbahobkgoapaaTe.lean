/- The walk of TagTells: it says true for every tag, parts, key, value and digests. -/
import Derived.Test.YtehbahobkgoapaaTb
import Derived.Test.YtehbahobkgoapaaOn
namespace Go.Proofs.Ytehbahobkgoapaa
open Go Go.RowKit
set_option linter.unusedSimpArgs false
set_option linter.unusedVariables false

theorem Tx.rd {w : World} {A : Option Addr} {n c : Nat} {l : List UInt8} (h : Tx w A n c l) : Rd w A (bvs l) := Lft.rd h
theorem Tx.len {w : World} {A : Option Addr} {n c : Nat} {l : List UInt8} (h : Tx w A n c l) : l.length = n := Lft.len h
theorem Tx.cap {w : World} {A : Option Addr} {n c : Nat} {l : List UInt8} (h : Tx w A n c l) : n ≤ c := Lft.cap h
theorem Tx.max {w : World} {A : Option Addr} {n c : Nat} {l : List UInt8} (h : Tx w A n c l) : c ≤ maxLen := Lft.max h
theorem LentRow.caps {w : World} {us : List Value} {ls : List (List UInt8)} (h : LentRow w us ls) (hb : ∀ l ∈ ls, l.length + 5 ≤ maxLen) : ∀ (i : Nat) (v : Value), us[i]? = some v → capOf v ≤ maxLen := by
  intro i v hv
  have hi : i < ls.length := by rw [← h.1]; exact (List.getElem?_eq_some_iff.1 hv).1
  obtain ⟨g, rfl, _⟩ := h.2 i v ls[i] hv (List.getElem?_eq_getElem hi)
  exact hb _ (List.getElem_mem hi)

set_option maxRecDepth 100000 in
set_option maxHeartbeats 8000000 in
theorem tag_tells (z : Int) (hz : (Lit.int .u8 z).wf = true) (A : Option Addr) (n c : Nat) (vs : List Value) (ls : List (List UInt8)) (k : List UInt8) (B : Option Addr) (m d : Nat) (l : List UInt8) (a b : List UInt8) (w : World)
    (hr : Rd w A vs) (ha : AllRd w vs ls) (hl : ls.length = n) (hn : n + ls.flatten.length ≤ 1048576) (lk : k.length = 32) (hr2 : Rd w B (bvs l)) (hl2 : l.length = m) (hcap2 : m ≤ d) (hmax2 : d ≤ 1048576) (la : a.length = 32) (lb : b.length = 32) :
    Calls Try.prog 14 #[.int .u8 z, .slice A n c, .agg (bvs k).toArray, .slice B m d, .agg (bvs a).toArray, .agg (bvs b).toArray] w fun e w' => e = .returned (.bool true) ∧ Below w.heap.size w w' := by
  obtain ⟨t, rfl⟩ : ∃ t : UInt8, z = (t.toNat : Int) := by
    have h := byte_of_int hz
    unfold bv at h
    injection h with _ h
    exact ⟨_, h⟩
  have hml : (140737488351232 : Nat) ≤ maxLen := by unfold maxLen; omega
  have hflat := flat_le ls
  have HLB : Hid (∀ x ∈ ls, x.length ≤ 1048576) := Lib.hid (fun x hx => by have := hflat x hx; omega)
  have HLM : Hid (∀ x ∈ ls, x.length + 5 ≤ maxLen) := Lib.hid (fun x hx => by have := hflat x hx; omega)
  have HN := Lib.hid hl
  have HL := Lib.hid ha.1
  have tx0 : Tx w B m d l := ⟨hl2, hcap2, by omega, hr2, fun _ _ h => h⟩
  have HK := Lib.hid lk
  have HA := Lib.hid la
  have HB := Lib.hid lb
  have b1 : Blk (w.alloc (.cells (bvs k).toArray 23)) w.heap.size 23 (bvs k) := Blk.new _ _ _
  have b2 : Blk ((w.alloc (.cells (bvs k).toArray 23)).alloc (.cells (bvs a).toArray 25)) (w.heap.size + 1) 25 (bvs a) := by
    have := Blk.new (w.alloc (.cells (bvs k).toArray 23)) 25 (bvs a)
    rwa [show (w.alloc (.cells (bvs k).toArray 23)).heap.size = w.heap.size + 1 by simp] at this
  have b3 : Blk (((w.alloc (.cells (bvs k).toArray 23)).alloc (.cells (bvs a).toArray 25)).alloc (.cells (bvs b).toArray 25)) (w.heap.size + 2) 25 (bvs b) := by
    have := Blk.new ((w.alloc (.cells (bvs k).toArray 23)).alloc (.cells (bvs a).toArray 25)) 25 (bvs b)
    rwa [show ((w.alloc (.cells (bvs k).toArray 23)).alloc (.cells (bvs a).toArray 25)).heap.size = w.heap.size + 2 by simp] at this
  have hall : Blk (((w.alloc (.cells (bvs k).toArray 23)).alloc (.cells (bvs a).toArray 25)).alloc (.cells (bvs b).toArray 25)) w.heap.size 23 (bvs k) ∧ Blk (((w.alloc (.cells (bvs k).toArray 23)).alloc (.cells (bvs a).toArray 25)).alloc (.cells (bvs b).toArray 25)) (w.heap.size + 1) 25 (bvs a) ∧ Blk (((w.alloc (.cells (bvs k).toArray 23)).alloc (.cells (bvs a).toArray 25)).alloc (.cells (bvs b).toArray 25)) (w.heap.size + 2) 25 (bvs b) ∧ Below w.heap.size w (((w.alloc (.cells (bvs k).toArray 23)).alloc (.cells (bvs a).toArray 25)).alloc (.cells (bvs b).toArray 25)) := ⟨((b1.alloc (.cells (bvs a).toArray 25)).alloc (.cells (bvs b).toArray 25)), (b2.alloc (.cells (bvs b).toArray 25)), b3, ((((Below.refl w.heap.size w).alloc (by first | exact Nat.le_refl _ | (simp; done) | (simp; omega)) (.cells (bvs k).toArray 23)).alloc (by first | exact Nat.le_refl _ | (simp; done) | (simp; omega)) (.cells (bvs a).toArray 25)).alloc (by first | exact Nat.le_refl _ | (simp; done) | (simp; omega)) (.cells (bvs b).toArray 25))⟩
  clear b1 b2 b3
  have DO := fun (AL : Option Addr) (cL : Nat) (us : List Value) (u : World) (h1 : Rd u AL us) (h2 : LentRow u us ls) => Lib.hid (tagof_any t AL n cL us ls u hl h1 h2.allRd (h2.caps HLM.out) (by omega) (by omega))
  have RO := fun (u : World) (h : Below w.heap.size w u) => Lib.hid (rof_any t A n c vs ls u hl (hr.below h) (ha.below h) (by omega) (by omega))
  have DE := fun u => Lib.hid (empty_any u)
  have RE := fun u => Lib.hid (rempty_any u)
  have DV := fun (A1 : Option Addr) (c1 : Nat) (u : World) (h : Tx u A1 m c1 l) => Lib.hid (value_any A1 m c1 l u h.rd h.len h.cap h.max (by omega))
  have RV := fun (u : World) (h : Tx u B m d l) => Lib.hid (rvalue_any B m d l u h.rd h.len h.cap (by omega))
  have DL := fun u => Lib.hid (leaf_any k a u lk la)
  have RL := fun u => Lib.hid (rleaf_any k a u lk la)
  have DI := fun u => Lib.hid (inner_any a b u la lb)
  have RI := fun u => Lib.hid (rinner_any a b u la lb)
  have EN := fun (A1 : Option Addr) (c1 : Nat) (u : World) (h : Tx u A1 m c1 l) => Lib.hid (entry_any k A1 m c1 l u lk h (by omega))
  have RN := fun (u : World) (h : Tx u B m d l) => Lib.hid (rentry_any k B m d l u lk h (by omega))
  have HDO : Hid ((shaL (t :: ls.flatten)).length = 32) := Lib.hid (shaL_length _)
  have HDE : Hid ((shaL [0]).length = 32) := Lib.hid (shaL_length _)
  have HDV : Hid ((shaL (3 :: l)).length = 32) := Lib.hid (shaL_length _)
  have HDL : Hid ((shaL (1 :: (k ++ a))).length = 32) := Lib.hid (shaL_length _)
  have HDI : Hid ((shaL (2 :: (a ++ b))).length = 32) := Lib.hid (shaL_length _)
  have HDN : Hid ((entH k l).length = 32) := Lib.hid (entH_length k l)
  clear lk la lb hflat hl hr2 hl2
  generalize shaL (t :: ls.flatten) = dO at *
  generalize shaL [0] = dE at *
  generalize shaL (3 :: l) = dV at *
  generalize shaL (1 :: (k ++ a)) = dL at *
  generalize shaL (2 :: (a ++ b)) = dI at *
  generalize entH k l = dN at *
  generalize entE l = eN at *
  unfold arr8 at *
  go_enter Try.func14, Try.ntmps14
  go_upto_region 1 with fail
  generalize hW : World.alloc (World.alloc (World.alloc w _) _) _ = w0
  have h3 : Blk w0 w.heap.size 23 (bvs k) ∧ Blk w0 (w.heap.size + 1) 25 (bvs a) ∧ Blk w0 (w.heap.size + 2) 25 (bvs b) ∧ Below w.heap.size w w0 := by rw [← hW]; exact hall
  clear hall hW
  obtain ⟨c1, c2, c3, c0⟩ := h3
  have TX := tx0.below c0
  clear tx0
  go_wp2_with fail
  go_loopw [13, 14] (fun v i wr => ∃ (q : Nat) (us : List Value), q ≤ n ∧ i = .int .i64 (q : Int) ∧ wr.ownsRow w0.heap.size 24 1 v q us ∧ LentRow wr us (ls.take q) ∧ Below w0.heap.size w0 wr) (fun _ i _ => n - (intOf i).toNat)
  case atStart => exact ⟨0, [], by omega, by go_num, World.ownsRow_nil _ _ _ _, LentRow.nil _, Below.refl _ _⟩
  case round =>
    obtain ⟨q, us, hq, rfl, ho, hlr, hwr⟩ := hrel
    have hwrw : Below w.heap.size w wr := c0.trans (hwr.mono c0.size)
    by_cases hlt : q < n
    · have hltl : q < ls.length := by have := HN.out; omega
      obtain ⟨v, hv⟩ : ∃ v, vs[q]? = some v := ⟨_, List.getElem?_eq_getElem (by have := HL.out; omega)⟩
      obtain ⟨ad, rfl, hcc⟩ := hr (by have := HL.out; omega)
      have hc : wr.cell? (ad.add q) = some v := (hwrw.cell (World.block_lt_of_cell? w _ (hcc q v hv))).trans (hcc q v hv)
      obtain ⟨A1, d1, rfl, hd, hrd⟩ := ha.2 q v ls[q] hv (List.getElem?_eq_getElem hltl)
      have hlk : ls[q].length ≤ 140737488351232 := by have := HLB.out _ (List.getElem_mem hltl); omega
      have HT := Lib.hid (List.take_succ_eq_append_getElem hltl)
      generalize hl' : ls[q] = x at *
      clear hv hcc hl'
      go_wp2_with fail
      refine (lent A1 x.length d1 x wr (hrd.below hwrw) rfl hlk).mono ?_
      rintro e wn ⟨rfl, hbp, hwp, hz⟩
      clear hz
      have ho := ownsRow_below ho hwp
      have hlr := hlr.below hwp
      have hd1 : Below wn.heap.size wn (wn.alloc (.cells #[.slice (some ⟨wr.heap.size, 0, none⟩) x.length (x.length + 5)] 24)) := (Below.refl _ _).alloc (Nat.le_refl _) _
      have hblk : Blk (wn.alloc (.cells #[.slice (some ⟨wr.heap.size, 0, none⟩) x.length (x.length + 5)] 24)) wn.heap.size 24 [.slice (some ⟨wr.heap.size, 0, none⟩) x.length (x.length + 5)] := Blk.new _ _ _
      have hBn : Below w0.heap.size w0 wn := hwr.trans (hwp.mono hwr.size)
      have hBa := hBn.trans (hd1.mono hBn.size)
      go_wp2_with ((with_reducible refine at_dst 34 ?_); refine wpList_append_row Try.underlying30 et24 rfl (.tmp 27) (.tmp 33) rfl w0.heap.size u13 q us rfl (ownsRow_below ho hd1) (some ⟨wn.heap.size, 0, none⟩) 1 1 _ rfl rfl (Rd.one_blk hblk) (by simp [Value.oneCell']) (by unfold maxLen; omega) (by omega) hBa.size ?_; intro v1 w1 ho1 hg1)
      go_roundw
      case rel =>
        refine ⟨q + 1, us ++ [.slice (some ⟨wr.heap.size, 0, none⟩) x.length (x.length + 5)], by omega, by go_num, ho1, ?_, ?_⟩
        · rw [HT.out]
          exact ((hlr.snoc hbp).below hd1).grown (ownsRow_below ho hd1) hg1
        · exact hBa.grown hg1 hBa.size (fun g hg => (ownsRow_blk ho hg).1)
      case measure => simp [intOf]; omega
    · obtain rfl : n = q := by omega
      have hlr : LentRow wr us ls := by have := HN.out; rw [← this, List.take_length] at hlr; exact hlr
      clear hlt hq
      obtain ⟨AL, cL, rfl, hcl, hcm, hrl⟩ := ownsRow_rd ho
      have hTr := TX.below hwr
      have c1 := c1.below hwr c1.lt
      have c2 := c2.below hwr c2.lt
      have c3 := c3.below hwr c3.lt
      go_upto_region 7 with (first
        | (go_at_call 25; with_reducible refine (lent B m d l wr hTr.rd hTr.len (by omega)).mono ?_; rintro e w1 ⟨rfl, hb1, hw1, hz1⟩))
      have hBk := hb1
      have P1 : Tx w1 (some ⟨wr.heap.size, 0, none⟩) m (m + 5) l := ⟨hTr.len, by omega, by omega, lent_rd0 hb1, fun _ _ h => h⟩
      have hTr1 := hTr.below hw1
      have hlr1 := hlr.below hw1
      have hrl1 := hrl.below hw1
      have c1 := c1.below hw1 c1.lt
      have c2 := c2.below hw1 c2.lt
      have c3 := c3.below hw1 c3.lt
      have hw01 : Below w.heap.size w w1 := hwrw.trans (hw1.mono hwrw.size)
      clear hTr hlr hrl hz1
      refine rg_begin (Below w1.heap.size w1) [] [2, 5, 8, 9, 14, 16, 22, 25, 31, 34] [0, 1, 3, 4, 2, 5, 6, 7, 8, 9, 10, 11, 12, 13, 15, 14, 16, 17, 18, 19, 20, 21, 23, 24, 22, 25, 26, 27, 28, 29, 30, 32, 33, 31, 34, 35, 36] 0 mixed (by kernel_rfl) (fun _ _ _ _ e hh => ⟨e.symm.trans hh.1, hh.2⟩) ?_
      simp only [pick, List.map_cons, List.map_nil, List.getD_cons_zero, List.getD_cons_succ]
      have hS : (Below w1.heap.size w1) _ := (Below.refl _ _).drew
      refine rg_take (v := ?v1_0) rfl rfl hS ?y1_0 ?_
      case y1_0 => intro W hW; (try subst hW); go_simp; try with_reducible rfl
      simp only [Act.put, List.setIfInBounds_toArray, List.set_cons_zero, List.set_cons_succ]
      refine rg_take (v := ?v1_1) rfl rfl hS ?y1_1 ?_
      case y1_1 => intro W hW; (try subst hW); go_simp; try with_reducible rfl
      simp only [Act.put, List.setIfInBounds_toArray, List.set_cons_zero, List.set_cons_succ]
      refine rg_take (v := ?v1_3) rfl rfl hS ?y1_3 ?_
      case y1_3 => intro W hW; (try subst hW); go_simp; try with_reducible rfl
      simp only [Act.put, List.setIfInBounds_toArray, List.set_cons_zero, List.set_cons_succ]
      refine rg_take (v := ?v1_4) rfl rfl hS ?y1_4 ?_
      case y1_4 => intro W hW; (try subst hW); go_simp; try with_reducible rfl
      simp only [Act.put, List.setIfInBounds_toArray, List.set_cons_zero, List.set_cons_succ]
      refine rg_one rfl rfl ?_; intro K hK; go_simp
      with_reducible refine (DO AL cL us _ (hrl1.below hS) (hlr1.below hS)).out.mono ?_
      rintro e w7_1 ⟨rfl, hw7_1⟩
      have hS7_1 : Below w1.heap.size w1 w7_1 := Below.trans hS (hw7_1.mono (Below.size hS))
      refine hK _ _ (fun _ => hS7_1) ?_; clear hK
      refine rg_one rfl rfl ?_; intro K hK; go_simp
      with_reducible refine (RO _ (hw01.trans (Below.mono hS7_1 hw01.size))).out.mono ?_
      rintro e w7_2 ⟨rfl, hw7_2⟩
      have hS7_2 : Below w1.heap.size w1 w7_2 := Below.trans hS7_1 (hw7_2.mono (Below.size hS7_1))
      refine hK _ _ (fun _ => hS7_2) ?_; clear hK
      refine rg_take rfl rfl hS7_2 (fun W hW => exec_neq_same ab25 _ _ rfl dO rfl rfl HDO.out) ?_
      simp only [Act.put, List.setIfInBounds_toArray, List.set_cons_zero, List.set_cons_succ]
      refine rg_take (v := ?v1_7) rfl rfl hS7_2 ?y1_7 ?_
      case y1_7 => intro W hW; (try subst hW); go_simp; try with_reducible rfl
      simp only [Act.put, List.setIfInBounds_toArray, List.set_cons_zero, List.set_cons_succ]
      refine rg_one rfl rfl ?_; intro K hK; go_simp
      with_reducible refine (DE _).out.mono ?_
      rintro e w7_3 ⟨rfl, hw7_3⟩
      have hS7_3 : Below w1.heap.size w1 w7_3 := Below.trans hS7_2 (hw7_3.mono (Below.size hS7_2))
      refine hK _ _ (fun _ => hS7_3) ?_; clear hK
      refine rg_one rfl rfl ?_; intro K hK; go_simp
      with_reducible refine (RE _).out.mono ?_
      rintro e w7_4 ⟨rfl, hw7_4⟩
      have hS7_4 : Below w1.heap.size w1 w7_4 := Below.trans hS7_3 (hw7_4.mono (Below.size hS7_3))
      refine hK _ _ (fun _ => hS7_4) ?_; clear hK
      refine rg_take rfl rfl hS7_4 (fun W hW => exec_neq_same ab25 _ _ rfl dE rfl rfl HDE.out) ?_
      simp only [Act.put, List.setIfInBounds_toArray, List.set_cons_zero, List.set_cons_succ]
      refine rg_take (v := ?v1_11) rfl rfl hS7_4 ?y1_11 ?_
      case y1_11 => intro W hW; (try subst hW); go_simp; try with_reducible rfl
      simp only [Act.put, List.setIfInBounds_toArray, List.set_cons_zero, List.set_cons_succ]
      refine rg_take (v := ?v1_12) rfl rfl hS7_4 ?y1_12 ?_
      case y1_12 => intro W hW; (try subst hW); go_simp; try with_reducible rfl
      simp only [Act.put, List.setIfInBounds_toArray, List.set_cons_zero, List.set_cons_succ]
      refine rg_take (v := ?v1_13) rfl rfl hS7_4 ?y1_13 ?_
      case y1_13 => intro W hW; (try subst hW); go_simp; try with_reducible rfl
      simp only [Act.put, List.setIfInBounds_toArray, List.set_cons_zero, List.set_cons_succ]
      refine rg_take (v := ?v1_15) rfl rfl hS7_4 ?y1_15 ?_
      case y1_15 => intro W hW; (try subst hW); go_simp; try with_reducible rfl
      simp only [Act.put, List.setIfInBounds_toArray, List.set_cons_zero, List.set_cons_succ]
      refine rg_one rfl rfl ?_; intro K hK; go_simp
      with_reducible refine (DV _ _ _ (P1.below hS7_4)).out.mono ?_
      rintro e w7_5 ⟨rfl, hw7_5⟩
      have hS7_5 : Below w1.heap.size w1 w7_5 := Below.trans hS7_4 (hw7_5.mono (Below.size hS7_4))
      refine hK _ _ (fun _ => hS7_5) ?_; clear hK
      refine rg_one rfl rfl ?_; intro K hK; go_simp
      with_reducible refine (RV _ (hTr1.below hS7_5)).out.mono ?_
      rintro e w7_6 ⟨rfl, hw7_6⟩
      have hS7_6 : Below w1.heap.size w1 w7_6 := Below.trans hS7_5 (hw7_6.mono (Below.size hS7_5))
      refine hK _ _ (fun _ => hS7_6) ?_; clear hK
      refine rg_take rfl rfl hS7_6 (fun W hW => exec_neq_same ab25 _ _ rfl dV rfl rfl HDV.out) ?_
      simp only [Act.put, List.setIfInBounds_toArray, List.set_cons_zero, List.set_cons_succ]
      refine rg_take (v := ?v1_18) rfl rfl hS7_6 ?y1_18 ?_
      case y1_18 => intro W hW; (try subst hW); go_simp; try with_reducible rfl
      simp only [Act.put, List.setIfInBounds_toArray, List.set_cons_zero, List.set_cons_succ]
      refine rg_take (v := ?v1_19) rfl rfl hS7_6 ?y1_19 ?_
      case y1_19 => intro W hW; (try subst hW); go_simp; try with_reducible rfl
      simp only [Act.put, List.setIfInBounds_toArray, List.set_cons_zero, List.set_cons_succ]
      refine rg_take rfl rfl hS7_6 (fun W hW => exec_load_agg at23' (.tmp 8) rfl w.heap.size 23 (bvs k) rfl (c1.below hW c1.lt) (by rw [bvs_length]; exact HK.out)) ?_
      simp only [Act.put, List.setIfInBounds_toArray, List.set_cons_zero, List.set_cons_succ]
      refine rg_take rfl rfl hS7_6 (fun W hW => exec_load_agg at25w (.tmp 10) rfl (w.heap.size + 1) 25 (bvs a) rfl (c2.below hW c2.lt) (by rw [bvs_length]; exact HA.out)) ?_
      simp only [Act.put, List.setIfInBounds_toArray, List.set_cons_zero, List.set_cons_succ]
      refine rg_take rfl rfl hS7_6 (fun W hW => exec_load_agg at23' (.tmp 8) rfl w.heap.size 23 (bvs k) rfl (c1.below hW c1.lt) (by rw [bvs_length]; exact HK.out)) ?_
      simp only [Act.put, List.setIfInBounds_toArray, List.set_cons_zero, List.set_cons_succ]
      refine rg_take rfl rfl hS7_6 (fun W hW => exec_load_agg at25w (.tmp 10) rfl (w.heap.size + 1) 25 (bvs a) rfl (c2.below hW c2.lt) (by rw [bvs_length]; exact HA.out)) ?_
      simp only [Act.put, List.setIfInBounds_toArray, List.set_cons_zero, List.set_cons_succ]
      refine rg_one rfl rfl ?_; intro K hK; go_simp
      with_reducible refine (DL _).out.mono ?_
      rintro e w7_7 ⟨rfl, hw7_7⟩
      have hS7_7 : Below w1.heap.size w1 w7_7 := Below.trans hS7_6 (hw7_7.mono (Below.size hS7_6))
      refine hK _ _ (fun _ => hS7_7) ?_; clear hK
      refine rg_one rfl rfl ?_; intro K hK; go_simp
      with_reducible refine (RL _).out.mono ?_
      rintro e w7_8 ⟨rfl, hw7_8⟩
      have hS7_8 : Below w1.heap.size w1 w7_8 := Below.trans hS7_7 (hw7_8.mono (Below.size hS7_7))
      refine hK _ _ (fun _ => hS7_8) ?_; clear hK
      refine rg_take rfl rfl hS7_8 (fun W hW => exec_neq_same ab25 _ _ rfl dL rfl rfl HDL.out) ?_
      simp only [Act.put, List.setIfInBounds_toArray, List.set_cons_zero, List.set_cons_succ]
      refine rg_take (v := ?v1_27) rfl rfl hS7_8 ?y1_27 ?_
      case y1_27 => intro W hW; (try subst hW); go_simp; try with_reducible rfl
      simp only [Act.put, List.setIfInBounds_toArray, List.set_cons_zero, List.set_cons_succ]
      refine rg_take (v := ?v1_28) rfl rfl hS7_8 ?y1_28 ?_
      case y1_28 => intro W hW; (try subst hW); go_simp; try with_reducible rfl
      simp only [Act.put, List.setIfInBounds_toArray, List.set_cons_zero, List.set_cons_succ]
      refine rg_take rfl rfl hS7_8 (fun W hW => exec_load_agg at25w (.tmp 10) rfl (w.heap.size + 1) 25 (bvs a) rfl (c2.below hW c2.lt) (by rw [bvs_length]; exact HA.out)) ?_
      simp only [Act.put, List.setIfInBounds_toArray, List.set_cons_zero, List.set_cons_succ]
      refine rg_take rfl rfl hS7_8 (fun W hW => exec_load_agg at25w (.tmp 11) rfl (w.heap.size + 2) 25 (bvs b) rfl (c3.below hW c3.lt) (by rw [bvs_length]; exact HB.out)) ?_
      simp only [Act.put, List.setIfInBounds_toArray, List.set_cons_zero, List.set_cons_succ]
      refine rg_take rfl rfl hS7_8 (fun W hW => exec_load_agg at25w (.tmp 10) rfl (w.heap.size + 1) 25 (bvs a) rfl (c2.below hW c2.lt) (by rw [bvs_length]; exact HA.out)) ?_
      simp only [Act.put, List.setIfInBounds_toArray, List.set_cons_zero, List.set_cons_succ]
      refine rg_take rfl rfl hS7_8 (fun W hW => exec_load_agg at25w (.tmp 11) rfl (w.heap.size + 2) 25 (bvs b) rfl (c3.below hW c3.lt) (by rw [bvs_length]; exact HB.out)) ?_
      simp only [Act.put, List.setIfInBounds_toArray, List.set_cons_zero, List.set_cons_succ]
      refine rg_one rfl rfl ?_; intro K hK; go_simp
      with_reducible refine (DI _).out.mono ?_
      rintro e w7_9 ⟨rfl, hw7_9⟩
      have hS7_9 : Below w1.heap.size w1 w7_9 := Below.trans hS7_8 (hw7_9.mono (Below.size hS7_8))
      refine hK _ _ (fun _ => hS7_9) ?_; clear hK
      refine rg_one rfl rfl ?_; intro K hK; go_simp
      with_reducible refine (RI _).out.mono ?_
      rintro e w7_10 ⟨rfl, hw7_10⟩
      have hS7_10 : Below w1.heap.size w1 w7_10 := Below.trans hS7_9 (hw7_10.mono (Below.size hS7_9))
      refine hK _ _ (fun _ => hS7_10) ?_; clear hK
      refine rg_take rfl rfl hS7_10 (fun W hW => exec_neq_same ab25 _ _ rfl dI rfl rfl HDI.out) ?_
      simp only [Act.put, List.setIfInBounds_toArray, List.set_cons_zero, List.set_cons_succ]
      refine rg_take (v := ?v1_36) rfl rfl hS7_10 ?y1_36 ?_
      case y1_36 => intro W hW; (try subst hW); go_simp; try with_reducible rfl
      simp only [Act.put, List.setIfInBounds_toArray, List.set_cons_zero, List.set_cons_succ]
      refine rg_done (by kernel_rfl) ?_
      obtain ⟨w2, hw2d⟩ : ∃ w2, w2 = w7_10 := ⟨_, rfl⟩
      have hS7 : Below w1.heap.size w1 w7_10 := hS7_10
      rw [← hw2d] at hS7 ⊢
      clear hS7_1 hS7_2 hS7_3 hS7_4 hS7_5 hS7_6 hS7_7 hS7_8 hS7_9 hS7_10 hw7_1 hw7_2 hw7_3 hw7_4 hw7_5 hw7_6 hw7_7 hw7_8 hw7_9 hw7_10 hw2d
      have P2 := P1.below hS7
      have T2 := hTr1.below hS7
      have hlr2 := hlr1.below hS7
      have hrl2 := hrl1.below hS7
      have c1 := c1.below hS7 c1.lt
      have hw02 : Below w.heap.size w w2 := hw01.trans (hS7.mono hw01.size)
      have hbk2 := (hb1.below hS7 hb1.lt)
      have z25 : ∀ u : World, Hid (Blk (u.alloc (.cells (bvs (zb 32)).toArray 25)) u.heap.size 25 (bvs (zb 32))) := fun u => Lib.hid (Blk.new _ _ _)
      have z22 : ∀ u : World, Hid (Blk (u.alloc (.cells (bvs (zb 32)).toArray 22)) u.heap.size 22 (bvs (zb 32))) := fun u => Lib.hid (Blk.new _ _ _)
      clear P1 hTr1 hlr1 hrl1 hw01 DO RO DE RE DV RV DL RL DI RI HDO HDE HDV HDL HDI
      go_upto_region 10 with (first
        | ((with_reducible refine at_dst 75 ?_); refine wpList_yield rfl _ (exec_load_agg at23' (.tmp 8) rfl w.heap.size 23 (bvs k) rfl c1 (by rw [bvs_length]; exact HK.out)) ?_)
        | (go_at_call 98; with_reducible refine (EN _ _ _ P2).out.mono ?_; rintro e w3 ⟨rfl, hw3⟩)
        | ((with_reducible refine at_op (Op.store 25 (.tmp 16) (.tmp 78)) ?_); refine wpList_store_at at25w.i rfl (.tmp 16) (.tmp 78) rfl w3.heap.size 0 25 (bvs (zb 32)) (bvs dN) rfl rfl (z25 w3).out (by rw [bvs_length]; exact HDN.out) (by rw [bvs_length, zb_length]; omega) (bvs_one _) ?_; intro w4 hb4 hg4 hs4))
      rw [splice_all _ _ (by rw [bvs_length, bvs_length, zb_length, HDN.out])] at hb4
      have hB34 : Below w3.heap.size w3 w4 := ((Below.refl w3.heap.size w3).alloc (Nat.le_refl _) _).grown hg4 (by simp) (by intro k hk; cases hk; exact Nat.le_refl _)
      have hB4 : Below w2.heap.size w2 w4 := hw3.trans (hB34.mono hw3.size)
      have P4 := P2.below hB4
      have T4 := T2.below hB4
      have c1 := c1.below hB4 c1.lt
      have h34 : w3.heap.size < w4.heap.size := hb4.lt
      go_upto_region 11 with (first
        | ((with_reducible refine at_dst 81 ?_); refine wpList_yield rfl _ (exec_load_agg at23' (.tmp 8) rfl w.heap.size 23 (bvs k) rfl c1 (by rw [bvs_length]; exact HK.out)) ?_)
        | (go_at_call 99; with_reducible refine (RN _ T4).out.mono ?_; rintro e w5 ⟨rfl, hw5⟩)
        | ((with_reducible refine at_op (Op.store 22 (.tmp 18) (.tmp 84)) ?_); refine wpList_store_at at22w.i rfl (.tmp 18) (.tmp 84) rfl w5.heap.size 0 22 (bvs (zb 32)) (bvs dN) rfl rfl (z22 w5).out (by rw [bvs_length]; exact HDN.out) (by rw [bvs_length, zb_length]; omega) (bvs_one _) ?_; intro w6 hb6 hg6 hs6))
      rw [splice_all _ _ (by rw [bvs_length, bvs_length, zb_length, HDN.out])] at hb6
      have hB56 : Below w5.heap.size w5 w6 := ((Below.refl w5.heap.size w5).alloc (Nat.le_refl _) _).grown hg6 (by simp) (by intro k hk; cases hk; exact Nat.le_refl _)
      have hB46 : Below w4.heap.size w4 w6 := hw5.trans (hB56.mono hw5.size)
      have hB6 : Below w2.heap.size w2 w6 := hB4.trans (hB46.mono hB4.size)
      have hb4' := hb4.below hB46 hb4.lt
      have T6 := T2.below hB6
      go_upto_region 13 with (first
        | ((with_reducible refine at_dst 86 ?_); refine wpList_yield rfl _ (exec_load_agg at25w (.tmp 16) rfl w3.heap.size 25 (bvs dN) rfl hb4' (by rw [bvs_length]; exact HDN.out)) ?_)
        | ((with_reducible refine at_dst 87 ?_); refine wpList_yield rfl _ (exec_load_agg at22w (.tmp 18) rfl w5.heap.size 22 (bvs dN) rfl hb6 (by rw [bvs_length]; exact HDN.out)) ?_)
        | ((with_reducible refine at_dst 88 ?_); refine wpList_yield rfl _ (exec_neq_same ab25 _ _ rfl dN rfl rfl HDN.out) ?_)
        | (go_at_call 40; with_reducible refine (kept_bytes ⟨wr.heap.size, 0, none⟩ B m d l w6 T6.rd T6.len (by omega) (Rd.of_blk0 (es := []) (by simpa using hbk2.below hB6 hbk2.lt))).mono ?_; rintro e w7 ⟨rfl, hw7⟩))
      have hB7 : Below w2.heap.size w2 w7 := hB6.trans (hw7.mono hB6.size)
      have hw07 : Below w.heap.size w w7 := hw02.trans (hB7.mono hw02.size)
      have hlr7 := hlr2.below hB7
      have hrl7 := hrl2.below hB7
      have hr7 : Rd w7 A vs := hr.below hw07
      have ha7 : AllRd w7 vs ls := ha.below hw07
      clear hlr2 hrl2 hB4 hB6 hB46 hB34 hB56 hb4' hb4 hb6 hg4 hg6 hs4 hs6 P2 T2 P4 T4 T6 hw3 hw5 hw7 EN RN z25 z22 hbk2 hb1 hBk
      go_wp2_with fail
      go_loopw [20] (fun i wr => ∃ q : Nat, q ≤ n ∧ i = .int .i64 (q : Int) ∧ Below w7.heap.size w7 wr) (fun i _ => n - (intOf i).toNat)
      case atStart => exact ⟨0, by omega, by go_num, Below.refl _ _⟩
      case round =>
        obtain ⟨q, hq, rfl, hx6⟩ := hrel
        by_cases hlt : q < n
        · obtain ⟨v, hv⟩ : ∃ v, vs[q]? = some v := ⟨_, List.getElem?_eq_getElem (by have := HL.out; have := HN.out; omega)⟩
          obtain ⟨u, hu⟩ : ∃ u, us[q]? = some u := ⟨_, List.getElem?_eq_getElem (by have := hlr7.1; have := HN.out; omega)⟩
          obtain ⟨x, hx⟩ : ∃ x, ls[q]? = some x := ⟨_, List.getElem?_eq_getElem (by have := HN.out; omega)⟩
          obtain ⟨ad, rfl, hcc⟩ := hr7 (by have := HL.out; have := HN.out; omega)
          obtain ⟨al, rfl, hcl⟩ := hrl7 (by have := hlr7.1; have := HN.out; omega)
          obtain ⟨Ax, dx, rfl, hd, hrd⟩ := ha7.2 q v x hv hx
          obtain ⟨g, rfl, hbg⟩ := hlr7.2 q u x hu hx
          have hxl : x.length ≤ 1048576 := HLB.out x (List.mem_of_getElem? hx)
          have hc1 : wr.cell? (ad.add q) = some (.slice Ax x.length dx) := (hx6.cell (World.block_lt_of_cell? _ _ (hcc q _ hv))).trans (hcc q _ hv)
          have hc2 : wr.cell? (al.add q) = some (.slice (some ⟨g, 0, none⟩) x.length (x.length + 5)) := (hx6.cell (World.block_lt_of_cell? _ _ (hcl q _ hu))).trans (hcl q _ hu)
          have hrg : Rd w7 (some ⟨g, 0, none⟩) (bvs (lentAll x)) := Rd.of_blk0 (es := []) (by simpa using hbg)
          clear hv hu hx hcc hcl
          go_wp2_with fail
          refine rg_begin (Below wr.heap.size wr) [] [8] [0, 1, 2, 3, 4, 5, 6, 7, 8, 9] 0 mixed (by kernel_rfl) (fun _ _ _ _ e hh => ⟨e.symm.trans hh.1, hh.2⟩) ?_
          simp only [pick, List.map_cons, List.map_nil, List.getD_cons_zero, List.getD_cons_succ]
          have hR : (Below wr.heap.size wr) _ := (Below.refl _ _).drew
          refine rg_take (v := ?v2_0) rfl rfl hR ?y2_0 ?_
          case y2_0 => intro W hW; (try subst hW); go_simp; try with_reducible rfl
          simp only [Act.put, List.setIfInBounds_toArray, List.set_cons_zero, List.set_cons_succ]
          refine rg_take (v := ?v2_1) rfl rfl hR ?y2_1 ?_
          case y2_1 => intro W hW; (try subst hW); go_simp; try with_reducible rfl
          simp only [Act.put, List.setIfInBounds_toArray, List.set_cons_zero, List.set_cons_succ]
          refine rg_take (v := ?v2_2) rfl rfl hR ?y2_2 ?_
          case y2_2 => intro W hW; (try subst hW); go_simp; try with_reducible rfl
          simp only [Act.put, List.setIfInBounds_toArray, List.set_cons_zero, List.set_cons_succ]
          refine rg_take (v := ?v2_3) rfl rfl hR ?y2_3 ?_
          case y2_3 => intro W hW; have hcw := (Below.cell hW (World.block_lt_of_cell? _ _ hc2)).trans hc2; go_simp; try with_reducible rfl
          simp only [Act.put, List.setIfInBounds_toArray, List.set_cons_zero, List.set_cons_succ]
          refine rg_take (v := ?v2_4) rfl rfl hR ?y2_4 ?_
          case y2_4 => intro W hW; (try subst hW); go_simp; try with_reducible rfl
          simp only [Act.put, List.setIfInBounds_toArray, List.set_cons_zero, List.set_cons_succ]
          refine rg_take (v := ?v2_5) rfl rfl hR ?y2_5 ?_
          case y2_5 => intro W hW; (try subst hW); go_simp; try with_reducible rfl
          simp only [Act.put, List.setIfInBounds_toArray, List.set_cons_zero, List.set_cons_succ]
          refine rg_take (v := ?v2_6) rfl rfl hR ?y2_6 ?_
          case y2_6 => intro W hW; (try subst hW); go_simp; try with_reducible rfl
          simp only [Act.put, List.setIfInBounds_toArray, List.set_cons_zero, List.set_cons_succ]
          refine rg_take (v := ?v2_7) rfl rfl hR ?y2_7 ?_
          case y2_7 => intro W hW; have hcw := (Below.cell hW (World.block_lt_of_cell? _ _ hc1)).trans hc1; go_simp; try with_reducible rfl
          simp only [Act.put, List.setIfInBounds_toArray, List.set_cons_zero, List.set_cons_succ]
          refine rg_one rfl rfl ?_; intro K hK; go_simp
          refine (kept_bytes ⟨g, 0, none⟩ Ax x.length dx x _ (hrd.below (hx6.then hR)) rfl (by omega) (hrg.below (hx6.then hR))).mono ?_
          rintro e wn ⟨rfl, hn⟩
          have hR := hR.then hn
          refine hK _ _ (fun _ => hR) ?_; clear hK hn
          refine rg_take (v := ?v2_9) rfl rfl hR ?y2_9 ?_
          case y2_9 => intro W hW; (try subst hW); go_simp; try with_reducible rfl
          simp only [Act.put, List.setIfInBounds_toArray, List.set_cons_zero, List.set_cons_succ]
          refine rg_done (by kernel_rfl) ?_
          go_wp2_with fail
          go_roundw
          case rel => exact ⟨q + 1, by omega, by go_num, hx6.then hR⟩
          case measure => simp [intOf]; omega
        · obtain rfl : n = q := by omega
          go_wp2_with fail
          go_ret
          exact ⟨rfl, hw07.trans (hx6.mono hw07.size)⟩
end Go.Proofs.Ytehbahobkgoapaa
