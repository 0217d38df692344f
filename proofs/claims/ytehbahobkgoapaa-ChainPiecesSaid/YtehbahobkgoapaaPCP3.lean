import Derived.Lib.SliceRun
import Derived.Deep.Slices
import Derived.Test.YtehbahobkgoapaaPCP2
namespace Go.Proofs.Ytehbahobkgoapaa
open Go Go.RowKit
set_option linter.unusedSimpArgs false
set_option linter.unusedVariables false
theorem flat32_drop (ls : List (List UInt8)) (h : ∀ l ∈ ls, l.length = 32) (k : Nat) (hk : k ≤ ls.length) : ls.flatten.drop (32 * k) = (ls.drop k).flatten := by
  have h1 : ls.flatten = (ls.take k).flatten ++ (ls.drop k).flatten := by rw [← List.flatten_append, List.take_append_drop]
  have h2 : (ls.take k).flatten.length = 32 * k := by rw [flat32_len _ (fun l hl => h l (List.mem_of_mem_take hl)), List.length_take]; omega
  rw [h1, List.drop_append, List.drop_of_length_le (by omega), h2]
  simp
/-- Some of a list. -/
def midL (ls : List (List UInt8)) (l h : Nat) : List (List UInt8) := (ls.drop l).take (h - l)
theorem midL_length (ls : List (List UInt8)) (l h n : Nat) (hn : ls.length = n) (h1 : l ≤ h) (h2 : h ≤ n) : (midL ls l h).length = h - l := by unfold midL; rw [List.length_take, List.length_drop]; omega
theorem Hl.mid {w : World} {A : Option Addr} {n c : Nat} {ls : List (List UInt8)} (x : Hl w A n c ls) (l h : Nat) (h1 : l ≤ h) (h2 : h ≤ n) : Hl w (cutA A c l 32) (h - l) (c - l) (midL ls l h) := by
  have hl := x.len
  have hm := x.max
  have hc := x.cap
  have he : ∀ y ∈ midL ls l h, y.length = 32 := fun y hy => x.each y (List.mem_of_mem_drop (List.mem_of_mem_take hy))
  refine ⟨midL_length ls l h n hl h1 h2, by omega, by omega, ?_, he⟩
  have h3 := x.rd.cutA (c := c) (lo := l) (z := 32) (by rw [bvs_length, flat32_len ls x.each, hl]; omega) (32 * (h - l))
  have e : ((bvs ls.flatten).drop (l * 32)).take (32 * (h - l)) = bvs (midL ls l h).flatten := by
    unfold bvs midL
    rw [← List.map_drop, ← List.map_take, Nat.mul_comm l 32, flat32_drop ls x.each l (by omega)]
    have h4 := flat32_take (ls.drop l) (fun y hy => x.each y (List.mem_of_mem_drop hy)) (h - l) (by rw [List.length_drop]; omega)
    rw [h4]
  rwa [e] at h3
theorem fold_mid (ls : List (List UInt8)) (l h : Nat) (h1 : l ≤ h) (h2 : h ≤ ls.length) : foldH (foldH firstH (ls.take l)) (midL ls l h) = foldH firstH (ls.take h) := by
  unfold foldH midL
  rw [← List.foldl_append]
  congr 1
  have : ls.take h = (ls.take h).take l ++ (ls.take h).drop l := (List.take_append_drop l _).symm
  rw [this, List.take_take, Nat.min_eq_left h1, List.drop_take]
/-- Where a digest stands first; the length where it does not stand. -/
def fidx (ls : List (List UInt8)) (h : List UInt8) : Nat := ls.findIdx (fun x => x == h)
theorem fidx_at (ls : List (List UInt8)) (h : List UInt8) (k : Nat) (hk : k < ls.length) (hle : k ≤ fidx ls h) (he : ls.getD k [] = h) : fidx ls h = k := by
  have h1 : fidx ls h ≤ k := by
    refine Nat.le_of_not_lt fun hlt => ?_
    have := List.not_of_lt_findIdx hlt
    rw [List.getD_eq_getElem?_getD, List.getElem?_eq_getElem hk] at he
    simp at he
    simp [he] at this
  omega
theorem fidx_past (ls : List (List UInt8)) (h : List UInt8) (k : Nat) (hk : k < ls.length) (hle : k ≤ fidx ls h) (he : ls.getD k [] ≠ h) : k + 1 ≤ fidx ls h := by
  refine Nat.succ_le_of_lt (Nat.lt_of_le_of_ne hle fun e => ?_)
  have hlt : fidx ls h < ls.length := by omega
  have h2 := List.findIdx_getElem (w := hlt)
  apply he
  subst e
  rw [List.getD_eq_getElem?_getD, List.getElem?_eq_getElem hk]
  exact eq_of_beq h2
theorem fidx_got (ls : List (List UInt8)) (h : List UInt8) (hlt : fidx ls h < ls.length) : ls.getD (fidx ls h) [] = h := by
  have h2 := List.findIdx_getElem (w := hlt)
  rw [List.getD_eq_getElem?_getD, List.getElem?_eq_getElem hlt]
  exact eq_of_beq h2
theorem fidx_mem (ls : List (List UInt8)) (h : List UInt8) (k : Nat) (hk : k < ls.length) (he : ls.getD k [] = h) : fidx ls h ≤ k := by
  refine Nat.le_of_not_lt fun hlt => ?_
  have := List.not_of_lt_findIdx hlt
  rw [List.getD_eq_getElem?_getD, List.getElem?_eq_getElem hk] at he
  simp at he
  simp [he] at this
set_option maxRecDepth 100000 in
set_option maxHeartbeats 1000000 in
theorem cloneH_any (A : Option Addr) (n c : Nat) (ls : List (List UInt8)) (w : World) (h : Hl w A n c ls) (hn : n ≤ 4398046511104) :
    Calls Try.prog 155 #[.slice A n c] w fun e w' => ∃ v, e = .returned v ∧ w'.ownsRow w.heap.size 25 32 v n (bvs ls.flatten) ∧ Below w.heap.size w w' := by
  have hf : ls.flatten.length = n * 32 := by rw [flat32_len ls h.each, h.len]; omega
  have hown : (w.alloc (.cells #[] 25)).ownsRow w.heap.size 25 32 (.slice (some ⟨w.heap.size, 0, none⟩) 0 0) 0 [] := ownsRow_of_blk w.heap.size 32 0 (by simpa using Blk.new w 25 []) (Nat.le_refl _) rfl (by omega)
  have hw0 : Below w.heap.size w (w.alloc (.cells #[] 25)) := (Below.refl _ _).alloc (Nat.le_refl _) _
  have hrd := h.rd.alloc (.cells #[] 25)
  cases A with
  | none =>
    have hn0 : n = 0 := by
      rcases Nat.eq_zero_or_pos n with e | e
      · exact e
      · obtain ⟨ad, hh, _⟩ := h.rd (by rw [bvs_length, hf]; omega); cases hh
    have hl0 : ls = [] := List.eq_nil_of_length_eq_zero (by rw [h.len, hn0])
    have HF := Lib.hid hl0
    have HN := Lib.hid hn0
    clear h hf hown hw0 hrd hl0 hn0 hn
    have q : ∀ u : World, (binOp .eql 132 (.slice none n c) (.slice none 0 0)).run Try.prog u = .ok (.bool true) u := fun u => Lib.run_eql_slice_nil u 132 25 none n c 0 0 Try.underlying132
    go_enter Try.func155, Try.ntmps155
    go_wp2_with fail
    go_ret
    refine ⟨_, rfl, ?_, Below.refl _ _⟩
    rw [HF.out, HN.out]
    exact World.ownsRow_nil _ _ _ _
  | some ad =>
    clear h
    have q : ∀ u : World, (binOp .eql 132 (.slice (some ad) n c) (.slice none 0 0)).run Try.prog u = .ok (.bool false) u := fun u => Lib.run_eql_slice_nil u 132 25 (some ad) n c 0 0 Try.underlying132
    go_enter Try.func155, Try.ntmps155
    go_wp2_with ((with_reducible refine at_dst 7 ?_); refine wpList_append_row Try.underlying132 et25 rfl (.tmp 5) (.tmp 6) rfl w.heap.size _ 0 [] rfl hown (some ad) n c (bvs ls.flatten) rfl (by rw [bvs_length, hf]) hrd (bvs_one _) (by unfold maxLen; omega) (by omega) hw0.size ?_; intro v1 w1 ho1 hg1)
    go_ret
    refine ⟨v1, rfl, by simpa using ho1, hw0.grown hg1 hw0.size (fun g hg => ?_)⟩
    have e : some w.heap.size = some g := hg
    exact Nat.le_of_eq (Option.some.inj e)
def idxZ (ls : List (List UInt8)) (h : List UInt8) : Int := if fidx ls h < ls.length then (fidx ls h : Int) else -1
theorem idxZ_in (ls : List (List UInt8)) (h : List UInt8) (k : Nat) (hk : k < ls.length) (e : fidx ls h = k) : idxZ ls h = (k : Int) := by unfold idxZ; rw [e, if_pos hk]
theorem idxZ_out (ls : List (List UInt8)) (h : List UInt8) (e : ls.length ≤ fidx ls h) : idxZ ls h = -1 := by unfold idxZ; rw [if_neg (by omega)]
set_option maxRecDepth 100000 in
set_option maxHeartbeats 4000000 in
theorem index_any (A : Option Addr) (n c : Nat) (ls : List (List UInt8)) (h : List UInt8) (w : World) (hl : Hl w A n c ls) (lh : h.length = 32) :
    Calls Try.prog 156 #[.slice A n c, .agg (bvs h).toArray] w fun e w' => e = .returned (.int .i64 (idxZ ls h)) ∧ Below w.heap.size w w' := by
  have HN := Lib.hid hl.len
  have HL := Lib.hid lh
  have hnm : n ≤ maxLen := Nat.le_trans hl.cap hl.max
  unfold maxLen at hnm
  have hbh : Blk (w.alloc (.cells (bvs h).toArray 25)) w.heap.size 25 (bvs h) := Blk.new _ _ _
  have hw0 : Below w.heap.size w (w.alloc (.cells (bvs h).toArray 25)) := (Below.refl _ _).alloc (Nat.le_refl _) _
  obtain ⟨R, hR⟩ : ∃ R, idxZ ls h = R := ⟨_, rfl⟩
  rw [hR]
  have HR := Lib.hid hR
  clear hR lh
  go_enter Try.func156, Try.ntmps156
  go_upto_region 1 with fail
  generalize hW : World.alloc w _ = w0
  have h3 : Blk w0 w.heap.size 25 (bvs h) ∧ Below w.heap.size w w0 := by rw [← hW]; exact ⟨hbh, hw0⟩
  clear hW hbh hw0
  obtain ⟨b0, hw0⟩ := h3
  refine wp_region_lit ?_
  refine wpList_yield rfl _ (exec_move _ rfl) ?_
  simp only [Act.put, Act.eval, Array.getD_eq_getD_getElem?, List.getElem?_toArray, List.getElem?_cons_succ, List.getElem?_cons_zero, Option.getD_some, List.setIfInBounds_toArray, List.set_cons_zero, List.set_cons_succ]
  refine wpList_yield rfl _ (exec_len132 _ rfl A n c rfl) ?_
  simp only [Act.put, List.setIfInBounds_toArray, List.set_cons_zero, List.set_cons_succ]
  refine wpList_yield rfl _ (exec_move _ rfl) ?_
  simp only [Act.put, Act.eval, Array.getD_eq_getD_getElem?, List.getElem?_toArray, List.getElem?_cons_succ, List.getElem?_cons_zero, Option.getD_some, List.setIfInBounds_toArray, List.set_cons_zero, List.set_cons_succ]
  refine wpList_nil ?_
  go_wp2_with fail
  go_loopw [8] (fun i wr => ∃ k : Nat, k ≤ n ∧ i = .int .i64 (k : Int) ∧ Hid (k ≤ fidx ls h) ∧ Below w0.heap.size w0 wr) (fun i _ => n - (intOf i).toNat)
  case atStart => exact ⟨0, by omega, by go_num, Lib.hid (Nat.zero_le _), Below.refl _ _⟩
  case round =>
    obtain ⟨k, hk, rfl, hle, hw⟩ := hrel
    by_cases hlt : k < n
    · have hltz : (k : Int) < (n : Int) := by omega
      obtain ⟨pa, rfl, x0, x32⟩ := hl.at k hlt
      have x1 := x0.below (hw0.trans (hw.mono hw0.size))
      have e1 := Lib.hid x32
      have b1 := b0.below hw b0.lt
      clear x0 x32
      by_cases hxy : ls.getD k [] = h
      · have hb : Hid ((h == ls.getD k []) = true) := Lib.hid (by rw [hxy]; simp)
        obtain rfl : R = (k : Int) := by rw [← HR.out]; exact idxZ_in ls h k (by rw [HN.out]; exact hlt) (fidx_at ls h k (by rw [HN.out]; exact hlt) hle.out hxy)
        clear hxy HR
        generalize ls.getD k [] = x at *
        go_upto_region 4 with fail
        refine rg_begin (Below wr.heap.size wr) [] [] [0, 1, 2, 3, 4, 5] 0 mixed (by kernel_rfl) (fun _ _ _ _ e hh => ⟨e.symm.trans hh.1, hh.2⟩) ?_
        simp only [pick, List.map_cons, List.map_nil, List.getD_cons_zero, List.getD_cons_succ]
        have hS : (Below wr.heap.size wr) _ := (Below.refl _ _).drew
        refine rg_take rfl rfl hS (fun W hW => exec_load_agg at25w (.tmp 3) rfl w.heap.size 25 (bvs h) rfl (b1.below hW b1.lt) (by rw [bvs_length]; exact HL.out)) ?_
        simp only [Act.put, List.setIfInBounds_toArray, List.set_cons_zero, List.set_cons_succ]
        refine rg_take (v := ?v1_1) rfl rfl hS ?y1_1 ?_
        case y1_1 => intro W hW; (try subst hW); go_simp; try with_reducible rfl
        simp only [Act.put, List.setIfInBounds_toArray, List.set_cons_zero, List.set_cons_succ]
        refine rg_take (v := ?v1_2) rfl rfl hS ?y1_2 ?_
        case y1_2 => intro W hW; (try subst hW); go_simp; try with_reducible rfl
        simp only [Act.put, List.setIfInBounds_toArray, List.set_cons_zero, List.set_cons_succ]
        refine rg_take rfl rfl hS (fun W hW => exec_siaz Try.underlying132 sz25 _ _ rfl pa n c k _ rfl rfl hlt) ?_
        simp only [Act.put, List.setIfInBounds_toArray, List.set_cons_zero, List.set_cons_succ]
        refine rg_take rfl rfl hS (fun W hW => exec_load_rd at25w _ rfl _ (bvs x) rfl (x1.below hW) (by omega) (by rw [bvs_length]; exact e1.out)) ?_
        simp only [Act.put, List.setIfInBounds_toArray, List.set_cons_zero, List.set_cons_succ]
        refine rg_take rfl rfl hS (fun W hW => exec_eql_to ab25 _ _ rfl h x rfl rfl HL.out e1.out hb.out) ?_
        simp only [Act.put, List.setIfInBounds_toArray, List.set_cons_zero, List.set_cons_succ]
        refine rg_done (by kernel_rfl) ?_
        go_wp2_with fail
        go_ret
        exact ⟨rfl, (bthen hw0 hw hw0.size).drew⟩
      · have hb : Hid ((h == ls.getD k []) = false) := Lib.hid (by simp only [beq_eq_false_iff_ne]; exact fun e => hxy e.symm)
        have hle2 := Lib.hid (fidx_past ls h k (by rw [HN.out]; exact hlt) hle.out hxy)
        clear hxy
        generalize ls.getD k [] = x at *
        go_upto_region 4 with fail
        refine rg_begin (Below wr.heap.size wr) [] [] [0, 1, 2, 3, 4, 5] 0 mixed (by kernel_rfl) (fun _ _ _ _ e hh => ⟨e.symm.trans hh.1, hh.2⟩) ?_
        simp only [pick, List.map_cons, List.map_nil, List.getD_cons_zero, List.getD_cons_succ]
        have hS : (Below wr.heap.size wr) _ := (Below.refl _ _).drew
        refine rg_take rfl rfl hS (fun W hW => exec_load_agg at25w (.tmp 3) rfl w.heap.size 25 (bvs h) rfl (b1.below hW b1.lt) (by rw [bvs_length]; exact HL.out)) ?_
        simp only [Act.put, List.setIfInBounds_toArray, List.set_cons_zero, List.set_cons_succ]
        refine rg_take (v := ?v2_1) rfl rfl hS ?y2_1 ?_
        case y2_1 => intro W hW; (try subst hW); go_simp; try with_reducible rfl
        simp only [Act.put, List.setIfInBounds_toArray, List.set_cons_zero, List.set_cons_succ]
        refine rg_take (v := ?v2_2) rfl rfl hS ?y2_2 ?_
        case y2_2 => intro W hW; (try subst hW); go_simp; try with_reducible rfl
        simp only [Act.put, List.setIfInBounds_toArray, List.set_cons_zero, List.set_cons_succ]
        refine rg_take rfl rfl hS (fun W hW => exec_siaz Try.underlying132 sz25 _ _ rfl pa n c k _ rfl rfl hlt) ?_
        simp only [Act.put, List.setIfInBounds_toArray, List.set_cons_zero, List.set_cons_succ]
        refine rg_take rfl rfl hS (fun W hW => exec_load_rd at25w _ rfl _ (bvs x) rfl (x1.below hW) (by omega) (by rw [bvs_length]; exact e1.out)) ?_
        simp only [Act.put, List.setIfInBounds_toArray, List.set_cons_zero, List.set_cons_succ]
        refine rg_take rfl rfl hS (fun W hW => exec_eql_to ab25 _ _ rfl h x rfl rfl HL.out e1.out hb.out) ?_
        simp only [Act.put, List.setIfInBounds_toArray, List.set_cons_zero, List.set_cons_succ]
        refine rg_done (by kernel_rfl) ?_
        go_wp2_with fail
        go_roundw
        case rel => exact ⟨k + 1, by omega, by go_num, hle2, hw.drew⟩
        case measure => simp only [intOf]; omega
    · obtain rfl : k = n := by omega
      obtain rfl : R = -1 := by rw [← HR.out]; exact idxZ_out ls h (by rw [HN.out]; exact hle.out)
      clear HR
      go_wp2_with fail
      go_ret
      exact ⟨rfl, bthen hw0 hw hw0.size⟩
set_option maxRecDepth 100000 in
set_option maxHeartbeats 1000000 in
theorem roots_in {S : Nat → Prop} (g : Nat) (rs : List (List UInt8)) (w : World) (h : Lg S w g rs) (l m : Nat) (h1 : l ≤ m) (h2 : m ≤ rs.length) :
    Calls Try.prog 118 #[.pointer (some ⟨g, 0, none⟩), .int .i64 (l : Int), .int .i64 (m : Int)] w fun e w' => ∃ v, e = .returned (.tuple #[v, .int .i64 0]) ∧ w'.ownsRow w.heap.size 25 32 v (m - l) (bvs (midL rs l m).flatten) ∧ Below w.heap.size w w' := by
  obtain ⟨RA, rc, HA, hc, v⟩ := h.view
  have hcl := Lib.hid (log_cells v.blk)
  have C := Lib.hid (lnone_no g rs w h)
  have CL := Lib.hid (cloneH_any _ _ _ _ w (v.r.mid l m h1 h2) (by have := v.few; omega))
  have hcap := v.r.cap
  generalize rs.length = n at *
  have q1 : decide ((l : Int) < 0) = false := by simp
  have q2 : decide (n < m) = false := by simp; omega
  have q3 : decide (m < l) = false := by simp; omega
  clear v h
  go_enter Try.func118, Try.ntmps118
  go_upto_region 3 with (first
    | (go_at_call 154; with_reducible refine C.out.mono ?_; rintro e w1 ⟨rfl, rfl⟩))
  clear C
  refine wp_region_lit ?_
  refine wpList_yield rfl _ (exec_move _ rfl) ?_
  simp only [Act.put, Act.eval, Array.getD_eq_getD_getElem?, List.getElem?_toArray, List.getElem?_cons_succ, List.getElem?_cons_zero, Option.getD_some, List.setIfInBounds_toArray, List.set_cons_zero, List.set_cons_succ]
  refine wpList_yield rfl ?vp3_1 ?yp3_1 ?_
  case yp3_1 => go_simp; try with_reducible rfl
  simp only [Act.put, List.setIfInBounds_toArray, List.set_cons_zero, List.set_cons_succ]
  refine wpList_yield rfl _ (exec_move _ rfl) ?_
  simp only [Act.put, Act.eval, Array.getD_eq_getD_getElem?, List.getElem?_toArray, List.getElem?_cons_succ, List.getElem?_cons_zero, Option.getD_some, List.setIfInBounds_toArray, List.set_cons_zero, List.set_cons_succ]
  refine wpList_yield_w rfl _ (exec_move _ rfl) ?_
  simp only [Act.put, Act.eval, Array.getD_eq_getD_getElem?, List.getElem?_toArray, List.getElem?_cons_succ, List.getElem?_cons_zero, Option.getD_some, List.setIfInBounds_toArray, List.set_cons_zero, List.set_cons_succ]
  refine wpList_yield_w rfl _ (exec_move _ rfl) ?_
  simp only [Act.put, Act.eval, Array.getD_eq_getD_getElem?, List.getElem?_toArray, List.getElem?_cons_succ, List.getElem?_cons_zero, Option.getD_some, List.setIfInBounds_toArray, List.set_cons_zero, List.set_cons_succ]
  refine wpList_yield_w rfl _ (exec_nilck _ rfl _ rfl) ?_
  simp only [Act.put, List.setIfInBounds_toArray, List.set_cons_zero, List.set_cons_succ]
  refine wpList_yield_w rfl _ (exec_l0 _ rfl g rfl) ?_
  simp only [Act.put, List.setIfInBounds_toArray, List.set_cons_zero, List.set_cons_succ]
  refine wpList_yield_w rfl _ (exec_load132 _ rfl _ _ rfl hcl.out.1) ?_
  simp only [Act.put, List.setIfInBounds_toArray, List.set_cons_zero, List.set_cons_succ]
  refine wpList_yield_w rfl _ (exec_len132 _ rfl RA n rc rfl) ?_
  simp only [Act.put, List.setIfInBounds_toArray, List.set_cons_zero, List.set_cons_succ]
  refine wpList_yield_w rfl ?vp4_9 ?yp4_9 ?_
  case yp4_9 => go_simp; try with_reducible rfl
  simp only [Act.put, List.setIfInBounds_toArray, List.set_cons_zero, List.set_cons_succ]
  refine wpList_yield rfl ?vp5_10 ?yp5_10 ?_
  case yp5_10 => go_simp; try with_reducible rfl
  simp only [Act.put, List.setIfInBounds_toArray, List.set_cons_zero, List.set_cons_succ]
  refine wpList_yield rfl _ (exec_move _ rfl) ?_
  simp only [Act.put, Act.eval, Array.getD_eq_getD_getElem?, List.getElem?_toArray, List.getElem?_cons_succ, List.getElem?_cons_zero, Option.getD_some, List.setIfInBounds_toArray, List.set_cons_zero, List.set_cons_succ]
  refine wpList_yield_w rfl _ (exec_move _ rfl) ?_
  simp only [Act.put, Act.eval, Array.getD_eq_getD_getElem?, List.getElem?_toArray, List.getElem?_cons_succ, List.getElem?_cons_zero, Option.getD_some, List.setIfInBounds_toArray, List.set_cons_zero, List.set_cons_succ]
  refine wpList_yield_w rfl _ (exec_move _ rfl) ?_
  simp only [Act.put, Act.eval, Array.getD_eq_getD_getElem?, List.getElem?_toArray, List.getElem?_cons_succ, List.getElem?_cons_zero, Option.getD_some, List.setIfInBounds_toArray, List.set_cons_zero, List.set_cons_succ]
  refine wpList_yield_w rfl ?vp6_14 ?yp6_14 ?_
  case yp6_14 => go_simp; try with_reducible rfl
  simp only [Act.put, List.setIfInBounds_toArray, List.set_cons_zero, List.set_cons_succ]
  refine wpList_yield rfl ?vp7_15 ?yp7_15 ?_
  case yp7_15 => go_simp; try with_reducible rfl
  simp only [Act.put, List.setIfInBounds_toArray, List.set_cons_zero, List.set_cons_succ]
  refine wpList_nil ?_
  go_upto_region 5 with fail
  refine wp_region_lit ?_
  refine wpList_yield rfl _ (exec_move _ rfl) ?_
  simp only [Act.put, Act.eval, Array.getD_eq_getD_getElem?, List.getElem?_toArray, List.getElem?_cons_succ, List.getElem?_cons_zero, Option.getD_some, List.setIfInBounds_toArray, List.set_cons_zero, List.set_cons_succ]
  refine wpList_yield rfl _ (exec_nilck _ rfl _ rfl) ?_
  simp only [Act.put, List.setIfInBounds_toArray, List.set_cons_zero, List.set_cons_succ]
  refine wpList_yield rfl _ (exec_l0 _ rfl g rfl) ?_
  simp only [Act.put, List.setIfInBounds_toArray, List.set_cons_zero, List.set_cons_succ]
  refine wpList_yield rfl _ (exec_load132 _ rfl _ _ rfl hcl.out.1) ?_
  simp only [Act.put, List.setIfInBounds_toArray, List.set_cons_zero, List.set_cons_succ]
  refine wpList_yield rfl _ (exec_move _ rfl) ?_
  simp only [Act.put, Act.eval, Array.getD_eq_getD_getElem?, List.getElem?_toArray, List.getElem?_cons_succ, List.getElem?_cons_zero, Option.getD_some, List.setIfInBounds_toArray, List.set_cons_zero, List.set_cons_succ]
  refine wpList_yield rfl _ (exec_move _ rfl) ?_
  simp only [Act.put, Act.eval, Array.getD_eq_getD_getElem?, List.getElem?_toArray, List.getElem?_cons_succ, List.getElem?_cons_zero, Option.getD_some, List.setIfInBounds_toArray, List.set_cons_zero, List.set_cons_succ]
  refine wpList_yield rfl _ (exec_slice_mid st132 _ _ _ rfl RA n rc l m .i64 .i64 rfl rfl rfl h1 (by omega)) ?_
  simp only [Act.put, List.setIfInBounds_toArray, List.set_cons_zero, List.set_cons_succ]
  refine wpList_plain rfl fun K hK => ?_; go_simp
  with_reducible refine CL.out.mono ?_
  rintro e w1 ⟨v1, rfl, ho1, hw1⟩
  refine hK _ _ ?_; clear hK
  (try simp only [Act.put, List.setIfInBounds_toArray, List.set_cons_zero, List.set_cons_succ])
  refine wpList_yield rfl _ (exec_assign _ rfl) ?_
  simp only [Act.put, Act.eval, Array.getD_eq_getD_getElem?, List.getElem?_toArray, List.getElem?_cons_succ, List.getElem?_cons_zero, Option.getD_some, List.setIfInBounds_toArray, List.set_cons_zero, List.set_cons_succ]
  refine wpList_yield rfl _ (exec_assign _ rfl) ?_
  simp only [Act.put, Act.eval, Array.getD_eq_getD_getElem?, List.getElem?_toArray, List.getElem?_cons_succ, List.getElem?_cons_zero, Option.getD_some, List.setIfInBounds_toArray, List.set_cons_zero, List.set_cons_succ]
  refine wpList_nil ?_
  go_wp2_with fail
  go_ret2
  exact ⟨_, rfl, ho1, hw1⟩
/-- What Find tells: a place, and whether there is one. -/
def findN (rs : List (List UInt8)) (h : List UInt8) : Nat := if fidx (heads rs) h ≤ rs.length then fidx (heads rs) h else 0
def findB (rs : List (List UInt8)) (h : List UInt8) : Bool := decide (fidx (heads rs) h ≤ rs.length)
theorem find_idx (rs : List (List UInt8)) (h : List UInt8) (R : Int) (hR : idxZ (heads rs) h = R) : (findB rs h = true ∧ R = (findN rs h : Int)) ∨ (findB rs h = false ∧ R = -1 ∧ findN rs h = 0) := by
  unfold findB findN
  unfold idxZ at hR
  rw [heads_length] at hR
  by_cases hq : fidx (heads rs) h ≤ rs.length
  · rw [if_pos (by omega)] at hR
    rw [if_pos hq]
    exact .inl ⟨by simpa using hq, hR.symm⟩
  · rw [if_neg (by omega)] at hR
    rw [if_neg hq]
    exact .inr ⟨by simpa using hq, hR.symm, rfl⟩
set_option maxRecDepth 100000 in
set_option maxHeartbeats 1000000 in
theorem find_any {S : Nat → Prop} (g : Nat) (rs : List (List UInt8)) (h : List UInt8) (w : World) (hg : Lg S w g rs) (lh : h.length = 32) :
    Calls Try.prog 119 #[.pointer (some ⟨g, 0, none⟩), .agg (bvs h).toArray] w fun e w' => e = .returned (.tuple #[.int .i64 (findN rs h : Int), .bool (findB rs h)]) ∧ Below w.heap.size w w' := by
  have hbr : Blk (w.alloc (.cells (bvs h).toArray 25)) w.heap.size 25 (bvs h) := Blk.new _ _ _
  have hw0 : Below w.heap.size w (w.alloc (.cells (bvs h).toArray 25)) := (Below.refl _ _).alloc (Nat.le_refl _) _
  have h0 := hg.below hw0
  obtain ⟨RA, rc, HA, hc, v⟩ := h0.view
  have hcl := Lib.hid (log_cells v.blk)
  have C := Lib.hid (lnone_no g rs _ h0)
  have IX := fun (u : World) (x : Hl u HA (rs.length + 1) hc (heads rs)) => Lib.hid (index_any HA (rs.length + 1) hc (heads rs) h u x lh)
  have HH := v.h
  have LH := Lib.hid lh
  obtain ⟨R, hR⟩ : ∃ R, idxZ (heads rs) h = R := ⟨_, rfl⟩
  have HC := find_idx rs h R hR
  rw [hR] at IX
  clear hR v h0 hg lh
  generalize heads rs = hs at *
  generalize rs.length + 1 = n1 at *
  generalize rs.length = n at *
  generalize findN rs h = N at *
  generalize findB rs h = B at *
  have hall := And.intro hbr (And.intro hw0 (And.intro hcl (And.intro C HH)))
  clear hbr hw0 hcl C HH
  go_enter Try.func119, Try.ntmps119
  go_upto_region 1 with fail
  generalize hW : World.alloc w _ = w0
  have hall : Blk w0 w.heap.size 25 (bvs h) ∧ Below w.heap.size w w0 ∧ Hid (w0.cell? ⟨g, 0, none⟩ = some (.slice RA n rc) ∧ w0.cell? ⟨g, 1, none⟩ = some (.slice HA n1 hc)) ∧ Hid (Calls Try.prog 154 #[.pointer (some ⟨g, 0, none⟩)] w0 fun e w' => e = .returned (.bool false) ∧ w0 = w') ∧ Hl w0 HA n1 hc hs := by rw [← hW]; exact hall
  clear hW
  obtain ⟨hbr, hw0, hcl, C, HH⟩ := hall
  go_upto_region 3 with (first
    | (go_at_call 154; with_reducible refine C.out.mono ?_; rintro e w1 ⟨rfl, rfl⟩))
  clear C
  refine rg_begin (Below w0.heap.size w0) [] [5] [0, 1, 2, 3, 4, 5, 6] 0 mixed (by kernel_rfl) (fun _ _ _ _ e hh => ⟨e.symm.trans hh.1, hh.2⟩) ?_
  simp only [pick, List.map_cons, List.map_nil, List.getD_cons_zero, List.getD_cons_succ]
  have hS : (Below w0.heap.size w0) _ := (Below.refl _ _).drew
  refine rg_take (v := ?v33_0) rfl rfl hS ?y33_0 ?_
  case y33_0 => intro W hW; (try subst hW); go_simp; try with_reducible rfl
  simp only [Act.put, List.setIfInBounds_toArray, List.set_cons_zero, List.set_cons_succ]
  refine rg_take rfl rfl hS (fun W hW => exec_nilck _ rfl _ rfl) ?_
  simp only [Act.put, List.setIfInBounds_toArray, List.set_cons_zero, List.set_cons_succ]
  refine rg_take rfl rfl hS (fun W hW => exec_l1 _ rfl g rfl) ?_
  simp only [Act.put, List.setIfInBounds_toArray, List.set_cons_zero, List.set_cons_succ]
  refine rg_take rfl rfl hS (fun W hW => exec_load132 _ rfl _ _ rfl (cell_below hW hcl.out.2)) ?_
  simp only [Act.put, List.setIfInBounds_toArray, List.set_cons_zero, List.set_cons_succ]
  refine rg_take rfl rfl hS (fun W hW => exec_load_agg at25w (.tmp 3) rfl w.heap.size 25 (bvs h) rfl (hbr.below hW hbr.lt) (by rw [bvs_length]; exact LH.out)) ?_
  simp only [Act.put, List.setIfInBounds_toArray, List.set_cons_zero, List.set_cons_succ]
  refine rg_one rfl rfl ?_; intro K hK; go_simp
  with_reducible refine (IX _ (HH.below hS)).out.mono ?_
  rintro e w2 ⟨rfl, hw2⟩
  have hS1 : Below w0.heap.size w0 w2 := Below.trans hS (hw2.mono (Below.size hS))
  refine hK _ _ (fun _ => hS1) ?_; clear hK
  refine rg_take (v := ?v33_6) rfl rfl hS1 ?y33_6 ?_
  case y33_6 => intro W hW; (try subst hW); go_simp; try with_reducible rfl
  simp only [Act.put, List.setIfInBounds_toArray, List.set_cons_zero, List.set_cons_succ]
  refine rg_done (by kernel_rfl) ?_
  have hB : Below w.heap.size w w2 := bthen hw0 hS1 hw0.size
  clear hS hS1 hw0 hbr hcl IX HH
  rcases HC with ⟨hB1, hR1⟩ | ⟨hB1, hR1, hN1⟩
  · subst hB1
    obtain rfl := hR1
    go_wp2_with fail
    go_ret2
    exact ⟨rfl, hB⟩
  · subst hB1
    obtain rfl := hR1
    obtain rfl : 0 = N := hN1.symm
    go_wp2_with fail
    go_ret2
    exact ⟨rfl, hB⟩
/-- While a log is made of roots: those so far are in it. -/
def FromS (w : World) (g : Nat) (ls : List (List UInt8)) (wr : World) : Prop := ∃ S, Lg S wr g ls ∧ (∀ k, S k → w.heap.size ≤ k) ∧ Below w.heap.size w wr
set_option maxRecDepth 100000 in
set_option maxHeartbeats 4000000 in
theorem from_any (A : Option Addr) (n c : Nat) (ls : List (List UInt8)) (w : World) (hl : Hl w A n c ls) (hn : n ≤ 4096) :
    Calls Try.prog 114 #[.slice A n c] w fun e w' => ∃ g S, e = .returned (.tuple #[.pointer (some ⟨g, 0, none⟩), .int .i64 0]) ∧ Lg S w' g ls ∧ (∀ k, S k → w.heap.size ≤ k) ∧ Below w.heap.size w w' := by
  have HN := Lib.hid hl.len
  have NW := fun u => Lib.hid (new_log u)
  have hge : ¬ (4096 : Int) < (n : Int) := by omega
  have HT : Hid (ls.take n = ls) := Lib.hid (List.take_of_length_le (by rw [HN.out]; exact Nat.le_refl _))
  go_enter Try.func114, Try.ntmps114
  go_upto_region 1 with fail
  refine wp_region_lit ?_
  refine wpList_yield rfl _ (exec_move _ rfl) ?_
  simp only [Act.put, Act.eval, Array.getD_eq_getD_getElem?, List.getElem?_toArray, List.getElem?_cons_succ, List.getElem?_cons_zero, Option.getD_some, List.setIfInBounds_toArray, List.set_cons_zero, List.set_cons_succ]
  refine wpList_yield rfl _ (exec_len132 _ rfl A n c rfl) ?_
  simp only [Act.put, List.setIfInBounds_toArray, List.set_cons_zero, List.set_cons_succ]
  refine wpList_yield rfl ?vp34_2 ?yp34_2 ?_
  case yp34_2 => go_simp; try with_reducible rfl
  simp only [Act.put, List.setIfInBounds_toArray, List.set_cons_zero, List.set_cons_succ]
  refine wpList_nil ?_
  go_upto_region 4 with (first
    | (go_at_call 148; with_reducible refine (NW _).out.mono ?_; rintro e w1 ⟨g, S, rfl, hl1, hS1, hw1⟩))
  refine wp_region_lit ?_
  refine wpList_yield rfl _ (exec_move _ rfl) ?_
  simp only [Act.put, Act.eval, Array.getD_eq_getD_getElem?, List.getElem?_toArray, List.getElem?_cons_succ, List.getElem?_cons_zero, Option.getD_some, List.setIfInBounds_toArray, List.set_cons_zero, List.set_cons_succ]
  refine wpList_yield rfl _ (exec_len132 _ rfl A n c rfl) ?_
  simp only [Act.put, List.setIfInBounds_toArray, List.set_cons_zero, List.set_cons_succ]
  refine wpList_yield rfl _ (exec_move _ rfl) ?_
  simp only [Act.put, Act.eval, Array.getD_eq_getD_getElem?, List.getElem?_toArray, List.getElem?_cons_succ, List.getElem?_cons_zero, Option.getD_some, List.setIfInBounds_toArray, List.set_cons_zero, List.set_cons_succ]
  refine wpList_nil ?_
  go_wp2_with fail
  go_loopw [13] (fun i wr => ∃ k : Nat, k ≤ n ∧ i = .int .i64 (k : Int) ∧ FromS w g (ls.take k) wr) (fun i _ => n - (intOf i).toNat)
  case atStart => exact ⟨0, by omega, by go_num, S, hl1, hS1, hw1⟩
  case round =>
    clear hl1 hS1 hw1
    obtain ⟨k, hk, rfl, S2, hl2, hS2, hw2⟩ := hrel
    by_cases hlt : k < n
    · have hltz : (k : Int) < (n : Int) := by omega
      obtain ⟨ad, rfl, hrd, h32⟩ := hl.at k hlt
      have hrd1 := hrd.below hw2
      have hlk : (ls.take k).length = k := by rw [List.length_take, HN.out]; omega
      have AD := fun (u : World) (x : Lg S2 u g (ls.take k)) => Lib.hid (add_any g (ls.take k) (ls.getD k []) u x h32 (by rw [hlk]; omega))
      have HS : Hid (ls.take k ++ [ls.getD k []] = ls.take (k + 1)) := Lib.hid (by
        rw [List.take_succ_eq_append_getElem (by rw [HN.out]; exact hlt), List.getD_eq_getElem?_getD, List.getElem?_eq_getElem (by rw [HN.out]; exact hlt)]; rfl)
      rw [HS.out, hlk] at AD
      have hy := Lib.hid h32
      clear hrd h32 hlk HS
      obtain ⟨l2, hq2⟩ : ∃ l2, ls.take (k + 1) = l2 := ⟨_, rfl⟩
      rw [hq2] at AD
      have HQ := Lib.hid hq2
      clear hq2
      generalize ls.take k = l1 at *
      generalize ls.getD k [] = y at *
      unfold arr8 at AD
      have b1 : Blk (wr.alloc (.cells (bvs (zb 32)).toArray 25)) wr.heap.size 25 (bvs (zb 32)) := Blk.new _ _ _
      have d2 := hl2.below ((Below.refl _ _).alloc (Nat.le_refl _) (.cells (bvs (zb 32)).toArray 25))
      have d0 : Below w.heap.size w (wr.alloc (.cells (bvs (zb 32)).toArray 25)) := hw2.alloc hw2.size _
      have hS2s : ¬ S2 wr.heap.size := fun h => by obtain ⟨_, _, p⟩ := hl2; have := p.lt _ h; omega
      go_upto_region 6 with fail
      refine wp_region_lit ?_
      refine wpList_yield rfl _ (exec_siaz Try.underlying132 sz25 _ _ rfl ad n c k _ rfl rfl hlt) ?_
      simp only [Act.put, List.setIfInBounds_toArray, List.set_cons_zero, List.set_cons_succ]
      refine wpList_yield rfl _ (exec_load_rd at25w _ rfl _ (bvs y) rfl hrd1 (by omega) (by rw [bvs_length]; exact hy.out)) ?_
      simp only [Act.put, List.setIfInBounds_toArray, List.set_cons_zero, List.set_cons_succ]
      refine wpList_plain rfl fun K hK => ?_; go_simp
      refine hK _ _ ?_; clear hK
      (try simp only [Act.put, List.setIfInBounds_toArray, List.set_cons_zero, List.set_cons_succ])
      refine wpList_store_at at25w.i rfl (.tmp 6) (.tmp 16) rfl wr.heap.size 0 25 (bvs (zb 32)) (bvs y) rfl rfl b1 (by rw [bvs_length]; exact hy.out) (by rw [bvs_length, zb_length]; omega) (bvs_one _) ?_
      intro w3 hb3 hg3 hs3
      (try simp only [Act.put, List.setIfInBounds_toArray, List.set_cons_zero, List.set_cons_succ])
      refine wpList_nil ?_
      rw [splice_all _ _ (by rw [bvs_length, bvs_length, zb_length]; exact hy.out.symm)] at hb3
      have e2 := d2.fr (T := fun k => k = wr.heap.size) ((Fr.refl _ _).grown hg3 (by intro g hg; cases hg; exact .inl rfl)) (fun k hk e => hS2s (by rw [← e]; exact hk))
      have e0 := d0.grown hg3 d0.size (by intro k hk; cases hk; exact hw2.size)
      clear b1 d2 d0 hg3 hs3 hS2s hl2 hw2
      generalize wr.heap.size = G at *
      go_upto_region 7 with fail
      refine wp_region_lit ?_
      refine wpList_yield rfl _ (exec_move _ rfl) ?_
      simp only [Act.put, Act.eval, Array.getD_eq_getD_getElem?, List.getElem?_toArray, List.getElem?_cons_succ, List.getElem?_cons_zero, Option.getD_some, List.setIfInBounds_toArray, List.set_cons_zero, List.set_cons_succ]
      refine wpList_yield rfl _ (exec_load_agg at25w (.tmp 6) rfl G 25 (bvs y) rfl hb3 (by rw [bvs_length]; exact hy.out)) ?_
      simp only [Act.put, List.setIfInBounds_toArray, List.set_cons_zero, List.set_cons_succ]
      refine wpList_plain rfl fun K hK => ?_; go_simp
      with_reducible refine (AD w3 e2).out.mono ?_
      rintro e w4 ⟨S4, rfl, hl4, hS4, hf4⟩
      refine hK _ _ ?_; clear hK
      (try simp only [Act.put, List.setIfInBounds_toArray, List.set_cons_zero, List.set_cons_succ])
      refine wpList_nil ?_
      have e4 := below_fr e0 hf4 e0.size hS2
      go_wp2_with fail
      go_roundw
      case rel => exact ⟨k + 1, by omega, by go_num, S4, by rw [HQ.out]; exact hl4, fun q hq => (hS4 q hq).elim (hS2 q) (fun h => Nat.le_trans e0.size h), e4⟩
      case measure => simp only [intOf]; omega
    · obtain rfl : n = k := by omega
      rw [HT.out] at hl2
      go_wp2_with fail
      go_ret2
      exact ⟨g, S2, rfl, hl2, hS2, hw2⟩
end Go.Proofs.Ytehbahobkgoapaa
namespace Go.Proofs.Ytehbahobkgoapaa
open Go Go.RowKit
set_option linter.unusedSimpArgs false
set_option linter.unusedVariables false
theorem headAt_is {S : Nat → Prop} (g : Nat) (rs : List (List UInt8)) (w : World) (h : Lg S w g rs) (i : Nat) (hi : i ≤ rs.length) (d : List UInt8) (hd : foldH firstH (rs.take i) = d) : Calls Try.prog 117 #[.pointer (some ⟨g, 0, none⟩), .int .i64 (i : Int)] w fun e w' => e = .returned (.tuple #[arr8 d, .int .i64 0]) ∧ Below w.heap.size w w' := by
  subst hd; exact headAt_in g rs w h i hi
theorem exec_addi {w : World} {a : Act} {o : Oper} (x y : Operand) (ho : o.op = .binOp .add 3 x y 3) (u v r : Int) (hx : a.eval x = .int .i64 u) (hy : a.eval y = .int .i64 v) (hr : IntKind.i64.wrap (u + v) = r) : (execOp a.eval o).run Try.prog w = .ok (.value (.int .i64 r)) w := by
  subst hr
  unfold execOp
  simp only [ho, hx, hy]
  go_simp
theorem exec_subi {w : World} {a : Act} {o : Oper} (x y : Operand) (ho : o.op = .binOp .sub 3 x y 3) (u v r : Int) (hx : a.eval x = .int .i64 u) (hy : a.eval y = .int .i64 v) (hr : IntKind.i64.wrap (u - v) = r) : (execOp a.eval o).run Try.prog w = .ok (.value (.int .i64 r)) w := by
  subst hr
  unfold execOp
  simp only [ho, hx, hy]
  go_simp
/-- Where a log's head stands: a place of that head, not behind it. -/
theorem find_head (rs : List (List UInt8)) (e : Nat) (he : e ≤ rs.length) : findB rs (foldH firstH (rs.take e)) = true ∧ findN rs (foldH firstH (rs.take e)) ≤ e ∧ foldH firstH (rs.take (findN rs (foldH firstH (rs.take e)))) = foldH firstH (rs.take e) := by
  have h1 : fidx (heads rs) (foldH firstH (rs.take e)) ≤ e := fidx_mem _ _ e (by rw [heads_length]; omega) (heads_get rs e he)
  have h2 : findN rs (foldH firstH (rs.take e)) = fidx (heads rs) (foldH firstH (rs.take e)) := by unfold findN; rw [if_pos (by omega)]
  refine ⟨by unfold findB; simp; omega, by rw [h2]; exact h1, ?_⟩
  rw [h2, ← heads_get rs _ (by omega)]
  exact fidx_got _ _ (by rw [heads_length]; omega)
set_option maxRecDepth 100000 in
set_option maxHeartbeats 8000000 in
theorem chain_pieces (A : Option Addr) (n c : Nat) (ls : List (List UInt8)) (x y : Int) (w : World) (h1 : Hl w A n c ls) (bx : -9223372036854775808 ≤ x ∧ x ≤ 9223372036854775807) (by' : -9223372036854775808 ≤ y ∧ y ≤ 9223372036854775807) :
    Calls Try.prog 23 #[.slice A n c, .int .i64 x, .int .i64 y] w fun e w' => e = .returned (.bool true) ∧ Below w.heap.size w w' := by
  have hnm : n ≤ maxLen := Nat.le_trans h1.cap h1.max
  unfold maxLen at hnm
  have AW := fun u => Lib.hid (awake_any u)
  by_cases hn : 40 < n
  · have hz : (40 : Int) < (n : Int) := by omega
    clear bx by'
    go_enter Try.func23, Try.ntmps23
    go_wp2_with (first
      | (go_at_call 113; with_reducible refine (AW _).out.mono ?_; rintro e w1 ⟨rfl, hw1⟩))
    go_ret
    exact ⟨rfl, hw1⟩
  · have hz : ¬ (40 : Int) < (n : Int) := by omega
    have P1 := fun u => Lib.hid (pick_any x ((n : Int) + 1) u (by omega) (by omega) bx)
    obtain ⟨m, hm⟩ : ∃ m : Nat, pickOf x ((n : Int) + 1) = (m : Int) := by have := pickOf_bd x ((n : Int) + 1) (by omega); exact ⟨(pickOf x ((n : Int) + 1)).toNat, by omega⟩
    have hmn : m ≤ n := by have := pickOf_bd x ((n : Int) + 1) (by omega); omega
    rw [hm] at P1
    have P2 := fun u => Lib.hid (pick_any y ((n : Int) + 1 - (m : Int)) u (by omega) (by omega) by')
    obtain ⟨d, hd⟩ : ∃ d : Nat, pickOf y ((n : Int) + 1 - (m : Int)) = (d : Int) := by have := pickOf_bd y ((n : Int) + 1 - (m : Int)) (by omega); exact ⟨(pickOf y ((n : Int) + 1 - (m : Int))).toNat, by omega⟩
    have hdn : m + d ≤ n := by have := pickOf_bd y ((n : Int) + 1 - (m : Int)) (by omega); omega
    rw [hd] at P2
    obtain ⟨e, hE, hme, hen⟩ : ∃ e : Nat, (m : Int) + (d : Int) = (e : Int) ∧ m ≤ e ∧ e ≤ n := ⟨m + d, by omega, by omega, hdn⟩
    have HL := Lib.hid h1.len
    have a1 : IntKind.i64.wrap ((n : Int) + 1) = (n : Int) + 1 := IntWalk.i64_in _ (by omega)
    have a2 : IntKind.i64.wrap ((n : Int) + 1 - (m : Int)) = (n : Int) + 1 - (m : Int) := IntWalk.i64_in _ (by omega)
    have a3 : IntKind.i64.wrap ((m : Int) + (d : Int)) = (e : Int) := by rw [hE]; exact IntWalk.i64_in _ (by omega)
    have A1 := Lib.hid a1
    have A2 := Lib.hid a2
    have A3 := Lib.hid a3
    clear a1 a2 a3 hE
    obtain ⟨f1, f2, f3⟩ := find_head ls e (by rw [HL.out]; exact hen)
    have hck : (foldH (foldH firstH (ls.take m)) (midL ls m e) == foldH firstH (ls.take e)) = true := by rw [fold_mid ls m e hme (by rw [HL.out]; exact hen)]; simp
    have hal : foldH (foldH firstH (ls.take m)) (midL ls m n) = foldH firstH ls := by rw [fold_mid ls m n hmn (by rw [HL.out]; omega), List.take_of_length_le (by rw [HL.out]; omega)]
    have hl1 : (foldH firstH (ls.take m)).length = 32 := foldH_len _
    have hl2 : (foldH firstH (ls.take e)).length = 32 := foldH_len _
    have hl3 : (foldH firstH ls).length = 32 := foldH_len _
    have hl0 : (firstH).length = 32 := firstH_length
    have FR := fun (u : World) (q : Hl u A n c ls) => Lib.hid (from_any A n c ls u q (by omega))
    have LL := fun (S : Nat → Prop) (g : Nat) (u : World) (q : Lg S u g ls) => Lib.hid (loglen_is g ls u q (n : Int) (by rw [HL.out]))
    have H1 := fun (S : Nat → Prop) (g : Nat) (u : World) (q : Lg S u g ls) => Lib.hid (headAt_is g ls u q m (by rw [HL.out]; omega) _ rfl)
    have H2 := fun (S : Nat → Prop) (g : Nat) (u : World) (q : Lg S u g ls) => Lib.hid (headAt_is g ls u q e (by rw [HL.out]; omega) _ rfl)
    have H3 := fun (S : Nat → Prop) (g : Nat) (u : World) (q : Lg S u g ls) => Lib.hid (headAt_is g ls u q (findN ls (foldH firstH (ls.take e))) (by rw [HL.out]; omega) _ f3)
    have RT := fun (S : Nat → Prop) (g : Nat) (u : World) (q : Lg S u g ls) => Lib.hid (roots_in g ls u q m e hme (by rw [HL.out]; omega))
    have FD := fun (S : Nat → Prop) (g : Nat) (u : World) (q : Lg S u g ls) => Lib.hid (find_any g ls (foldH firstH (ls.take e)) u q hl2)
    rw [f1] at FD
    have OW := fun (u : World) (b : Nat) (v : Value) (q : u.ownsRow b 25 32 v (e - m) (bvs (midL ls m e).flatten)) => Lib.hid (own_hl q (midL_length ls m e n HL.out hme hen) (fun z hz => h1.each z (List.mem_of_mem_drop (List.mem_of_mem_take hz))))
    have CK := fun (B : Option Addr) (k : Nat) (u : World) (q : Hl u B (e - m) k (midL ls m e)) => Lib.hid (check_any (foldH firstH (ls.take m)) (foldH firstH (ls.take e)) B (e - m) k (midL ls m e) u hl1 hl2 q true hck)
    have SM := fun (B : Option Addr) (k : Nat) (u : World) (q : Hl u B (e - m) k (midL ls m e)) (z : Hl u A n c ls) => Lib.hid (sameL111 B (e - m) k (midL ls m e) _ _ _ (midL ls m e) u q (z.mid m e hme hen) true (by simp))
    have FI := fun u => Lib.hid (first_is u)
    have FA := fun (u : World) (q : Hl u A n c ls) => Lib.hid (fold_any firstH A m c (ls.take m) u hl0 (q.to m hmn))
    have FB := fun (u : World) (q : Hl u A n c ls) => Lib.hid (fold_any (foldH firstH (ls.take m)) _ _ _ (midL ls m n) u hl1 (q.mid m n hmn (Nat.le_refl _)))
    rw [hal] at FB
    have HD := fun (S : Nat → Prop) (g : Nat) (u : World) (q : Lg S u g ls) => Lib.hid (loghead_is g ls u q _ rfl)
    have hge : decide (e < findN ls (foldH firstH (ls.take e))) = false := by simp; omega
    have hcap := h1.cap
    have z25 : ∀ u : World, Hid (Blk (u.alloc (.cells (bvs (zb 32)).toArray 25)) u.heap.size 25 (bvs (zb 32))) := fun u => Lib.hid (Blk.new _ _ _)
    have L1 := Lib.hid hl1
    have L2 := Lib.hid hl2
    have L3 := Lib.hid hl3
    clear f1 f2 f3 hck hal hl0 hl1 hl2 hl3 bx by' hm hd
    generalize findN ls (foldH firstH (ls.take e)) = k at *
    generalize foldH firstH (ls.take e) = fe at *
    generalize foldH firstH (ls.take m) = fm at *
    generalize foldH firstH ls = fa at *
    generalize firstH = FH at *
    unfold arr8 at *
    go_enter Try.func23, Try.ntmps23
    go_upto_region 4 with (first
      | (go_at_call 113; with_reducible refine (AW _).out.mono ?_; rintro e1 w1 ⟨rfl, hw1⟩))
    have x1 := h1.below hw1
    clear h1 AW
    refine wp_region_lit ?_
    refine wpList_yield rfl _ (exec_move _ rfl) ?_
    simp only [Act.put, Act.eval, Array.getD_eq_getD_getElem?, List.getElem?_toArray, List.getElem?_cons_succ, List.getElem?_cons_zero, Option.getD_some, List.setIfInBounds_toArray, List.set_cons_zero, List.set_cons_succ]
    refine wpList_plain rfl fun K hK => ?_; go_simp
    with_reducible refine (FR _ x1).out.mono ?_
    rintro e1 w2 ⟨g, S, rfl, lg2, hS, hw2⟩
    refine hK _ _ ?_; clear hK
    (try simp only [Act.put, List.setIfInBounds_toArray, List.set_cons_zero, List.set_cons_succ])
    refine wpList_yield rfl _ (exec_move _ rfl) ?_
    simp only [Act.put, Act.eval, Array.getD_eq_getD_getElem?, List.getElem?_toArray, List.getElem?_cons_succ, List.getElem?_cons_zero, Option.getD_some, List.setIfInBounds_toArray, List.set_cons_zero, List.set_cons_succ]
    refine wpList_yield rfl ?vp1_3 ?yp1_3 ?_
    case yp1_3 => go_simp; try with_reducible rfl
    simp only [Act.put, List.setIfInBounds_toArray, List.set_cons_zero, List.set_cons_succ]
    refine wpList_yield rfl ?vp2_4 ?yp2_4 ?_
    case yp2_4 => go_simp; try with_reducible rfl
    simp only [Act.put, List.setIfInBounds_toArray, List.set_cons_zero, List.set_cons_succ]
    refine wpList_yield rfl _ (exec_assign _ rfl) ?_
    simp only [Act.put, Act.eval, Array.getD_eq_getD_getElem?, List.getElem?_toArray, List.getElem?_cons_succ, List.getElem?_cons_zero, Option.getD_some, List.setIfInBounds_toArray, List.set_cons_zero, List.set_cons_succ]
    refine wpList_yield rfl _ (exec_assign _ rfl) ?_
    simp only [Act.put, Act.eval, Array.getD_eq_getD_getElem?, List.getElem?_toArray, List.getElem?_cons_succ, List.getElem?_cons_zero, Option.getD_some, List.setIfInBounds_toArray, List.set_cons_zero, List.set_cons_succ]
    refine wpList_nil ?_
    have x2 := x1.below hw2
    have B2 := bthen hw1 hw2 hw1.size
    clear x1 hw1 hw2 hS FR
    go_upto_region 5 with fail
    refine wp_region_lit ?_
    refine wpList_yield rfl _ (exec_move _ rfl) ?_
    simp only [Act.put, Act.eval, Array.getD_eq_getD_getElem?, List.getElem?_toArray, List.getElem?_cons_succ, List.getElem?_cons_zero, Option.getD_some, List.setIfInBounds_toArray, List.set_cons_zero, List.set_cons_succ]
    refine wpList_yield rfl ?vp3_1 ?yp3_1 ?_
    case yp3_1 => go_simp; try with_reducible rfl
    simp only [Act.put, List.setIfInBounds_toArray, List.set_cons_zero, List.set_cons_succ]
    refine wpList_yield rfl _ (exec_move _ rfl) ?_
    simp only [Act.put, Act.eval, Array.getD_eq_getD_getElem?, List.getElem?_toArray, List.getElem?_cons_succ, List.getElem?_cons_zero, Option.getD_some, List.setIfInBounds_toArray, List.set_cons_zero, List.set_cons_succ]
    refine wpList_yield_w rfl _ (exec_move _ rfl) ?_
    simp only [Act.put, Act.eval, Array.getD_eq_getD_getElem?, List.getElem?_toArray, List.getElem?_cons_succ, List.getElem?_cons_zero, Option.getD_some, List.setIfInBounds_toArray, List.set_cons_zero, List.set_cons_succ]
    refine wpList_plain_w rfl fun K hK => ?_; go_simp
    with_reducible refine (LL S g w2 lg2).out.mono ?_
    rintro e1 _ ⟨rfl, rfl⟩
    refine hK _ _ ?_; clear hK
    (try simp only [Act.put, List.setIfInBounds_toArray, List.set_cons_zero, List.set_cons_succ])
    refine wpList_yield_w rfl _ (exec_move _ rfl) ?_
    simp only [Act.put, Act.eval, Array.getD_eq_getD_getElem?, List.getElem?_toArray, List.getElem?_cons_succ, List.getElem?_cons_zero, Option.getD_some, List.setIfInBounds_toArray, List.set_cons_zero, List.set_cons_succ]
    refine wpList_yield_w rfl _ (exec_len132 _ rfl A n c rfl) ?_
    simp only [Act.put, List.setIfInBounds_toArray, List.set_cons_zero, List.set_cons_succ]
    refine wpList_yield_w rfl ?vp4_7 ?yp4_7 ?_
    case yp4_7 => go_simp; try with_reducible rfl
    simp only [Act.put, List.setIfInBounds_toArray, List.set_cons_zero, List.set_cons_succ]
    refine wpList_yield rfl ?vp5_8 ?yp5_8 ?_
    case yp5_8 => go_simp; try with_reducible rfl
    simp only [Act.put, List.setIfInBounds_toArray, List.set_cons_zero, List.set_cons_succ]
    refine wpList_nil ?_
    clear LL
    go_upto_region 7 with fail
    refine wp_region_lit ?_
    refine wpList_yield rfl _ (exec_move _ rfl) ?_
    simp only [Act.put, Act.eval, Array.getD_eq_getD_getElem?, List.getElem?_toArray, List.getElem?_cons_succ, List.getElem?_cons_zero, Option.getD_some, List.setIfInBounds_toArray, List.set_cons_zero, List.set_cons_succ]
    refine wpList_yield rfl _ (exec_move _ rfl) ?_
    simp only [Act.put, Act.eval, Array.getD_eq_getD_getElem?, List.getElem?_toArray, List.getElem?_cons_succ, List.getElem?_cons_zero, Option.getD_some, List.setIfInBounds_toArray, List.set_cons_zero, List.set_cons_succ]
    refine wpList_yield rfl _ (exec_len132 _ rfl A n c rfl) ?_
    simp only [Act.put, List.setIfInBounds_toArray, List.set_cons_zero, List.set_cons_succ]
    refine wpList_yield rfl _ (exec_addi _ _ rfl (n : Int) 1 _ rfl rfl A1.out) ?_
    simp only [Act.put, List.setIfInBounds_toArray, List.set_cons_zero, List.set_cons_succ]
    refine wpList_plain rfl fun K hK => ?_; go_simp
    with_reducible refine (P1 w2).out.mono ?_
    rintro e1 _ ⟨rfl, rfl⟩
    refine hK _ _ ?_; clear hK
    (try simp only [Act.put, List.setIfInBounds_toArray, List.set_cons_zero, List.set_cons_succ])
    refine wpList_yield rfl _ (exec_assign _ rfl) ?_
    simp only [Act.put, Act.eval, Array.getD_eq_getD_getElem?, List.getElem?_toArray, List.getElem?_cons_succ, List.getElem?_cons_zero, Option.getD_some, List.setIfInBounds_toArray, List.set_cons_zero, List.set_cons_succ]
    refine wpList_nil ?_
    go_upto_region 8 with fail
    refine wp_region_lit ?_
    refine wpList_yield rfl _ (exec_move _ rfl) ?_
    simp only [Act.put, Act.eval, Array.getD_eq_getD_getElem?, List.getElem?_toArray, List.getElem?_cons_succ, List.getElem?_cons_zero, Option.getD_some, List.setIfInBounds_toArray, List.set_cons_zero, List.set_cons_succ]
    refine wpList_yield rfl _ (exec_move _ rfl) ?_
    simp only [Act.put, Act.eval, Array.getD_eq_getD_getElem?, List.getElem?_toArray, List.getElem?_cons_succ, List.getElem?_cons_zero, Option.getD_some, List.setIfInBounds_toArray, List.set_cons_zero, List.set_cons_succ]
    refine wpList_yield rfl _ (exec_move _ rfl) ?_
    simp only [Act.put, Act.eval, Array.getD_eq_getD_getElem?, List.getElem?_toArray, List.getElem?_cons_succ, List.getElem?_cons_zero, Option.getD_some, List.setIfInBounds_toArray, List.set_cons_zero, List.set_cons_succ]
    refine wpList_yield rfl _ (exec_len132 _ rfl A n c rfl) ?_
    simp only [Act.put, List.setIfInBounds_toArray, List.set_cons_zero, List.set_cons_succ]
    refine wpList_yield rfl _ (exec_addi _ _ rfl (n : Int) 1 _ rfl rfl A1.out) ?_
    simp only [Act.put, List.setIfInBounds_toArray, List.set_cons_zero, List.set_cons_succ]
    refine wpList_yield rfl _ (exec_move _ rfl) ?_
    simp only [Act.put, Act.eval, Array.getD_eq_getD_getElem?, List.getElem?_toArray, List.getElem?_cons_succ, List.getElem?_cons_zero, Option.getD_some, List.setIfInBounds_toArray, List.set_cons_zero, List.set_cons_succ]
    refine wpList_yield rfl _ (exec_subi _ _ rfl ((n : Int) + 1) (m : Int) _ rfl rfl A2.out) ?_
    simp only [Act.put, List.setIfInBounds_toArray, List.set_cons_zero, List.set_cons_succ]
    refine wpList_plain rfl fun K hK => ?_; go_simp
    with_reducible refine (P2 w2).out.mono ?_
    rintro e1 _ ⟨rfl, rfl⟩
    refine hK _ _ ?_; clear hK
    (try simp only [Act.put, List.setIfInBounds_toArray, List.set_cons_zero, List.set_cons_succ])
    refine wpList_yield rfl _ (exec_addi _ _ rfl (m : Int) (d : Int) _ rfl rfl A3.out) ?_
    simp only [Act.put, List.setIfInBounds_toArray, List.set_cons_zero, List.set_cons_succ]
    refine wpList_yield rfl _ (exec_assign _ rfl) ?_
    simp only [Act.put, Act.eval, Array.getD_eq_getD_getElem?, List.getElem?_toArray, List.getElem?_cons_succ, List.getElem?_cons_zero, Option.getD_some, List.setIfInBounds_toArray, List.set_cons_zero, List.set_cons_succ]
    refine wpList_nil ?_
    clear P1 P2
    go_upto_region 9 with fail
    refine wp_region_lit ?_
    refine wpList_yield rfl _ (exec_move _ rfl) ?_
    simp only [Act.put, Act.eval, Array.getD_eq_getD_getElem?, List.getElem?_toArray, List.getElem?_cons_succ, List.getElem?_cons_zero, Option.getD_some, List.setIfInBounds_toArray, List.set_cons_zero, List.set_cons_succ]
    refine wpList_yield rfl _ (exec_move _ rfl) ?_
    simp only [Act.put, Act.eval, Array.getD_eq_getD_getElem?, List.getElem?_toArray, List.getElem?_cons_succ, List.getElem?_cons_zero, Option.getD_some, List.setIfInBounds_toArray, List.set_cons_zero, List.set_cons_succ]
    refine wpList_plain rfl fun K hK => ?_; go_simp
    with_reducible refine (H1 S g w2 lg2).out.mono ?_
    rintro e1 w3 ⟨rfl, hw3⟩
    refine hK _ _ ?_; clear hK
    (try simp only [Act.put, List.setIfInBounds_toArray, List.set_cons_zero, List.set_cons_succ])
    refine wpList_yield rfl _ (exec_move _ rfl) ?_
    simp only [Act.put, Act.eval, Array.getD_eq_getD_getElem?, List.getElem?_toArray, List.getElem?_cons_succ, List.getElem?_cons_zero, Option.getD_some, List.setIfInBounds_toArray, List.set_cons_zero, List.set_cons_succ]
    refine wpList_yield rfl ?vp6_4 ?yp6_4 ?_
    case yp6_4 => go_simp; try with_reducible rfl
    simp only [Act.put, List.setIfInBounds_toArray, List.set_cons_zero, List.set_cons_succ]
    refine wpList_yield rfl ?vp7_5 ?yp7_5 ?_
    case yp7_5 => go_simp; try with_reducible rfl
    simp only [Act.put, List.setIfInBounds_toArray, List.set_cons_zero, List.set_cons_succ]
    refine wpList_plain rfl fun K hK => ?_; go_simp
    refine hK _ _ ?_; clear hK
    (try simp only [Act.put, List.setIfInBounds_toArray, List.set_cons_zero, List.set_cons_succ])
    refine wpList_store_at at25w.i rfl (.tmp 12) (.tmp 59) rfl w3.heap.size 0 25 (bvs (zb 32)) (bvs fm) rfl rfl (z25 w3).out (by rw [bvs_length]; exact L1.out) (by rw [bvs_length, zb_length]; omega) (bvs_one _) ?_
    intro w4 b4 g4 s4
    (try simp only [Act.put, List.setIfInBounds_toArray, List.set_cons_zero, List.set_cons_succ])
    refine wpList_yield rfl _ (exec_assign _ rfl) ?_
    simp only [Act.put, Act.eval, Array.getD_eq_getD_getElem?, List.getElem?_toArray, List.getElem?_cons_succ, List.getElem?_cons_zero, Option.getD_some, List.setIfInBounds_toArray, List.set_cons_zero, List.set_cons_succ]
    refine wpList_nil ?_
    rw [splice_all _ _ (by rw [bvs_length, bvs_length, zb_length]; exact L1.out.symm)] at b4
    have V4 : Below w2.heap.size w2 w4 := (hw3.alloc hw3.size (.cells (bvs (zb 32)).toArray 25)).grown g4 (by have := hw3.size; simp; omega) (by intro k hk; cases hk; exact hw3.size)
    have lg4 := lg2.below V4
    have x4 := x2.below V4
    have B4 := bthen B2 V4 B2.size
    clear hw3 g4 s4 V4 lg2 x2 B2 H1
    generalize w3.heap.size = g12 at *
    go_upto_region 10 with fail
    refine wp_region_lit ?_
    refine wpList_yield rfl _ (exec_move _ rfl) ?_
    simp only [Act.put, Act.eval, Array.getD_eq_getD_getElem?, List.getElem?_toArray, List.getElem?_cons_succ, List.getElem?_cons_zero, Option.getD_some, List.setIfInBounds_toArray, List.set_cons_zero, List.set_cons_succ]
    refine wpList_yield rfl _ (exec_move _ rfl) ?_
    simp only [Act.put, Act.eval, Array.getD_eq_getD_getElem?, List.getElem?_toArray, List.getElem?_cons_succ, List.getElem?_cons_zero, Option.getD_some, List.setIfInBounds_toArray, List.set_cons_zero, List.set_cons_succ]
    refine wpList_plain rfl fun K hK => ?_; go_simp
    with_reducible refine (H2 S g w4 lg4).out.mono ?_
    rintro e1 w5 ⟨rfl, hw5⟩
    refine hK _ _ ?_; clear hK
    (try simp only [Act.put, List.setIfInBounds_toArray, List.set_cons_zero, List.set_cons_succ])
    refine wpList_yield rfl _ (exec_move _ rfl) ?_
    simp only [Act.put, Act.eval, Array.getD_eq_getD_getElem?, List.getElem?_toArray, List.getElem?_cons_succ, List.getElem?_cons_zero, Option.getD_some, List.setIfInBounds_toArray, List.set_cons_zero, List.set_cons_succ]
    refine wpList_yield rfl ?vp8_4 ?yp8_4 ?_
    case yp8_4 => go_simp; try with_reducible rfl
    simp only [Act.put, List.setIfInBounds_toArray, List.set_cons_zero, List.set_cons_succ]
    refine wpList_yield rfl ?vp9_5 ?yp9_5 ?_
    case yp9_5 => go_simp; try with_reducible rfl
    simp only [Act.put, List.setIfInBounds_toArray, List.set_cons_zero, List.set_cons_succ]
    refine wpList_plain rfl fun K hK => ?_; go_simp
    refine hK _ _ ?_; clear hK
    (try simp only [Act.put, List.setIfInBounds_toArray, List.set_cons_zero, List.set_cons_succ])
    refine wpList_store_at at25w.i rfl (.tmp 14) (.tmp 65) rfl w5.heap.size 0 25 (bvs (zb 32)) (bvs fe) rfl rfl (z25 w5).out (by rw [bvs_length]; exact L2.out) (by rw [bvs_length, zb_length]; omega) (bvs_one _) ?_
    intro w6 b6 g6 s6
    (try simp only [Act.put, List.setIfInBounds_toArray, List.set_cons_zero, List.set_cons_succ])
    refine wpList_yield rfl _ (exec_assign _ rfl) ?_
    simp only [Act.put, Act.eval, Array.getD_eq_getD_getElem?, List.getElem?_toArray, List.getElem?_cons_succ, List.getElem?_cons_zero, Option.getD_some, List.setIfInBounds_toArray, List.set_cons_zero, List.set_cons_succ]
    refine wpList_nil ?_
    rw [splice_all _ _ (by rw [bvs_length, bvs_length, zb_length]; exact L2.out.symm)] at b6
    have V6 : Below w4.heap.size w4 w6 := (hw5.alloc hw5.size (.cells (bvs (zb 32)).toArray 25)).grown g6 (by have := hw5.size; simp; omega) (by intro k hk; cases hk; exact hw5.size)
    have lg6 := lg4.below V6
    have x6 := x4.below V6
    have B6 := bthen B4 V6 B4.size
    have c6 := b4.below V6 b4.lt
    clear hw5 g6 s6 V6 lg4 x4 B4 H2 b4
    generalize w5.heap.size = g14 at *
    go_upto_region 11 with fail
    refine wp_region_lit ?_
    refine wpList_yield rfl _ (exec_move _ rfl) ?_
    simp only [Act.put, Act.eval, Array.getD_eq_getD_getElem?, List.getElem?_toArray, List.getElem?_cons_succ, List.getElem?_cons_zero, Option.getD_some, List.setIfInBounds_toArray, List.set_cons_zero, List.set_cons_succ]
    refine wpList_yield rfl _ (exec_move _ rfl) ?_
    simp only [Act.put, Act.eval, Array.getD_eq_getD_getElem?, List.getElem?_toArray, List.getElem?_cons_succ, List.getElem?_cons_zero, Option.getD_some, List.setIfInBounds_toArray, List.set_cons_zero, List.set_cons_succ]
    refine wpList_yield rfl _ (exec_move _ rfl) ?_
    simp only [Act.put, Act.eval, Array.getD_eq_getD_getElem?, List.getElem?_toArray, List.getElem?_cons_succ, List.getElem?_cons_zero, Option.getD_some, List.setIfInBounds_toArray, List.set_cons_zero, List.set_cons_succ]
    refine wpList_plain rfl fun K hK => ?_; go_simp
    with_reducible refine (RT S g w6 lg6).out.mono ?_
    rintro e1 w7 ⟨v7, rfl, o7, V7⟩
    refine hK _ _ ?_; clear hK
    (try simp only [Act.put, List.setIfInBounds_toArray, List.set_cons_zero, List.set_cons_succ])
    refine wpList_yield rfl _ (exec_move _ rfl) ?_
    simp only [Act.put, Act.eval, Array.getD_eq_getD_getElem?, List.getElem?_toArray, List.getElem?_cons_succ, List.getElem?_cons_zero, Option.getD_some, List.setIfInBounds_toArray, List.set_cons_zero, List.set_cons_succ]
    refine wpList_yield rfl ?vp10_5 ?yp10_5 ?_
    case yp10_5 => go_simp; try with_reducible rfl
    simp only [Act.put, List.setIfInBounds_toArray, List.set_cons_zero, List.set_cons_succ]
    refine wpList_yield rfl ?vp11_6 ?yp11_6 ?_
    case yp11_6 => go_simp; try with_reducible rfl
    simp only [Act.put, List.setIfInBounds_toArray, List.set_cons_zero, List.set_cons_succ]
    refine wpList_yield rfl _ (exec_assign _ rfl) ?_
    simp only [Act.put, Act.eval, Array.getD_eq_getD_getElem?, List.getElem?_toArray, List.getElem?_cons_succ, List.getElem?_cons_zero, Option.getD_some, List.setIfInBounds_toArray, List.set_cons_zero, List.set_cons_succ]
    refine wpList_yield rfl _ (exec_assign _ rfl) ?_
    simp only [Act.put, Act.eval, Array.getD_eq_getD_getElem?, List.getElem?_toArray, List.getElem?_cons_succ, List.getElem?_cons_zero, Option.getD_some, List.setIfInBounds_toArray, List.set_cons_zero, List.set_cons_succ]
    refine wpList_nil ?_
    obtain ⟨RB, rc, rfl, y7⟩ := (OW _ _ _ o7).out
    have lg7 := lg6.below V7
    have x7 := x6.below V7
    have B7 := bthen B6 V7 B6.size
    have c7 := c6.below V7 c6.lt
    have d7 := b6.below V7 b6.lt
    clear o7 V7 lg6 x6 B6 c6 b6 RT OW
    go_upto_region 12 with fail
    refine wp_region_lit ?_
    refine wpList_yield rfl _ (exec_move _ rfl) ?_
    simp only [Act.put, Act.eval, Array.getD_eq_getD_getElem?, List.getElem?_toArray, List.getElem?_cons_succ, List.getElem?_cons_zero, Option.getD_some, List.setIfInBounds_toArray, List.set_cons_zero, List.set_cons_succ]
    refine wpList_yield rfl _ (exec_load_agg at25w (.tmp 14) rfl g14 25 (bvs fe) rfl d7 (by rw [bvs_length]; exact L2.out)) ?_
    simp only [Act.put, List.setIfInBounds_toArray, List.set_cons_zero, List.set_cons_succ]
    refine wpList_plain rfl fun K hK => ?_; go_simp
    with_reducible refine (FD S g w7 lg7).out.mono ?_
    rintro e1 w8 ⟨rfl, V8⟩
    refine hK _ _ ?_; clear hK
    (try simp only [Act.put, List.setIfInBounds_toArray, List.set_cons_zero, List.set_cons_succ])
    refine wpList_yield rfl _ (exec_move _ rfl) ?_
    simp only [Act.put, Act.eval, Array.getD_eq_getD_getElem?, List.getElem?_toArray, List.getElem?_cons_succ, List.getElem?_cons_zero, Option.getD_some, List.setIfInBounds_toArray, List.set_cons_zero, List.set_cons_succ]
    refine wpList_yield rfl ?vp12_4 ?yp12_4 ?_
    case yp12_4 => go_simp; try with_reducible rfl
    simp only [Act.put, List.setIfInBounds_toArray, List.set_cons_zero, List.set_cons_succ]
    refine wpList_yield rfl ?vp13_5 ?yp13_5 ?_
    case yp13_5 => go_simp; try with_reducible rfl
    simp only [Act.put, List.setIfInBounds_toArray, List.set_cons_zero, List.set_cons_succ]
    refine wpList_yield rfl _ (exec_assign _ rfl) ?_
    simp only [Act.put, Act.eval, Array.getD_eq_getD_getElem?, List.getElem?_toArray, List.getElem?_cons_succ, List.getElem?_cons_zero, Option.getD_some, List.setIfInBounds_toArray, List.set_cons_zero, List.set_cons_succ]
    refine wpList_yield rfl _ (exec_assign _ rfl) ?_
    simp only [Act.put, Act.eval, Array.getD_eq_getD_getElem?, List.getElem?_toArray, List.getElem?_cons_succ, List.getElem?_cons_zero, Option.getD_some, List.setIfInBounds_toArray, List.set_cons_zero, List.set_cons_succ]
    refine wpList_nil ?_
    have lg8 := lg7.below V8
    have x8 := x7.below V8
    have y8 := y7.below V8
    have B8 := bthen B7 V8 B7.size
    have c8 := c7.below V8 c7.lt
    have d8 := d7.below V8 d7.lt
    clear V8 lg7 x7 B7 c7 d7 y7 FD
    go_upto_region 13 with fail
    refine wp_region_lit ?_
    refine wpList_yield rfl _ (exec_move _ rfl) ?_
    simp only [Act.put, Act.eval, Array.getD_eq_getD_getElem?, List.getElem?_toArray, List.getElem?_cons_succ, List.getElem?_cons_zero, Option.getD_some, List.setIfInBounds_toArray, List.set_cons_zero, List.set_cons_succ]
    refine wpList_yield rfl ?vp14_1 ?yp14_1 ?_
    case yp14_1 => go_simp; try with_reducible rfl
    simp only [Act.put, List.setIfInBounds_toArray, List.set_cons_zero, List.set_cons_succ]
    refine wpList_yield rfl _ (exec_move _ rfl) ?_
    simp only [Act.put, Act.eval, Array.getD_eq_getD_getElem?, List.getElem?_toArray, List.getElem?_cons_succ, List.getElem?_cons_zero, Option.getD_some, List.setIfInBounds_toArray, List.set_cons_zero, List.set_cons_succ]
    refine wpList_yield_w rfl _ (exec_move _ rfl) ?_
    simp only [Act.put, Act.eval, Array.getD_eq_getD_getElem?, List.getElem?_toArray, List.getElem?_cons_succ, List.getElem?_cons_zero, Option.getD_some, List.setIfInBounds_toArray, List.set_cons_zero, List.set_cons_succ]
    refine wpList_yield_w rfl ?vp15_4 ?yp15_4 ?_
    case yp15_4 => go_simp; try with_reducible rfl
    simp only [Act.put, List.setIfInBounds_toArray, List.set_cons_zero, List.set_cons_succ]
    refine wpList_yield rfl ?vp16_5 ?yp16_5 ?_
    case yp16_5 => go_simp; try with_reducible rfl
    simp only [Act.put, List.setIfInBounds_toArray, List.set_cons_zero, List.set_cons_succ]
    refine wpList_yield rfl _ (exec_move _ rfl) ?_
    simp only [Act.put, Act.eval, Array.getD_eq_getD_getElem?, List.getElem?_toArray, List.getElem?_cons_succ, List.getElem?_cons_zero, Option.getD_some, List.setIfInBounds_toArray, List.set_cons_zero, List.set_cons_succ]
    refine wpList_yield_w rfl _ (exec_move _ rfl) ?_
    simp only [Act.put, Act.eval, Array.getD_eq_getD_getElem?, List.getElem?_toArray, List.getElem?_cons_succ, List.getElem?_cons_zero, Option.getD_some, List.setIfInBounds_toArray, List.set_cons_zero, List.set_cons_succ]
    refine wpList_yield_w rfl ?vp17_8 ?yp17_8 ?_
    case yp17_8 => go_simp; try with_reducible rfl
    simp only [Act.put, List.setIfInBounds_toArray, List.set_cons_zero, List.set_cons_succ]
    refine wpList_yield rfl ?vp18_9 ?yp18_9 ?_
    case yp18_9 => go_simp; try with_reducible rfl
    simp only [Act.put, List.setIfInBounds_toArray, List.set_cons_zero, List.set_cons_succ]
    refine wpList_yield rfl _ (exec_move _ rfl) ?_
    simp only [Act.put, Act.eval, Array.getD_eq_getD_getElem?, List.getElem?_toArray, List.getElem?_cons_succ, List.getElem?_cons_zero, Option.getD_some, List.setIfInBounds_toArray, List.set_cons_zero, List.set_cons_succ]
    refine wpList_yield_w rfl _ (exec_move _ rfl) ?_
    simp only [Act.put, Act.eval, Array.getD_eq_getD_getElem?, List.getElem?_toArray, List.getElem?_cons_succ, List.getElem?_cons_zero, Option.getD_some, List.setIfInBounds_toArray, List.set_cons_zero, List.set_cons_succ]
    refine wpList_yield_w rfl ?vp19_12 ?yp19_12 ?_
    case yp19_12 => go_simp; try with_reducible rfl
    simp only [Act.put, List.setIfInBounds_toArray, List.set_cons_zero, List.set_cons_succ]
    refine wpList_yield rfl ?vp20_13 ?yp20_13 ?_
    case yp20_13 => go_simp; try with_reducible rfl
    simp only [Act.put, List.setIfInBounds_toArray, List.set_cons_zero, List.set_cons_succ]
    refine wpList_yield rfl _ (exec_move _ rfl) ?_
    simp only [Act.put, Act.eval, Array.getD_eq_getD_getElem?, List.getElem?_toArray, List.getElem?_cons_succ, List.getElem?_cons_zero, Option.getD_some, List.setIfInBounds_toArray, List.set_cons_zero, List.set_cons_succ]
    refine wpList_yield_w rfl _ (exec_move _ rfl) ?_
    simp only [Act.put, Act.eval, Array.getD_eq_getD_getElem?, List.getElem?_toArray, List.getElem?_cons_succ, List.getElem?_cons_zero, Option.getD_some, List.setIfInBounds_toArray, List.set_cons_zero, List.set_cons_succ]
    refine wpList_yield_w rfl _ (exec_move _ rfl) ?_
    simp only [Act.put, Act.eval, Array.getD_eq_getD_getElem?, List.getElem?_toArray, List.getElem?_cons_succ, List.getElem?_cons_zero, Option.getD_some, List.setIfInBounds_toArray, List.set_cons_zero, List.set_cons_succ]
    refine wpList_yield_w rfl ?vp21_17 ?yp21_17 ?_
    case yp21_17 => go_simp; try with_reducible rfl
    simp only [Act.put, List.setIfInBounds_toArray, List.set_cons_zero, List.set_cons_succ]
    refine wpList_yield rfl ?vp22_18 ?yp22_18 ?_
    case yp22_18 => go_simp; try with_reducible rfl
    simp only [Act.put, List.setIfInBounds_toArray, List.set_cons_zero, List.set_cons_succ]
    refine wpList_yield rfl _ (exec_move _ rfl) ?_
    simp only [Act.put, Act.eval, Array.getD_eq_getD_getElem?, List.getElem?_toArray, List.getElem?_cons_succ, List.getElem?_cons_zero, Option.getD_some, List.setIfInBounds_toArray, List.set_cons_zero, List.set_cons_succ]
    refine wpList_yield_w rfl _ (exec_load_agg at25w (.tmp 12) rfl g12 25 (bvs fm) rfl c8 (by rw [bvs_length]; exact L1.out)) ?_
    simp only [Act.put, List.setIfInBounds_toArray, List.set_cons_zero, List.set_cons_succ]
    refine wpList_yield_w rfl _ (exec_load_agg at25w (.tmp 14) rfl g14 25 (bvs fe) rfl d8 (by rw [bvs_length]; exact L2.out)) ?_
    simp only [Act.put, List.setIfInBounds_toArray, List.set_cons_zero, List.set_cons_succ]
    refine wpList_yield_w rfl _ (exec_move _ rfl) ?_
    simp only [Act.put, Act.eval, Array.getD_eq_getD_getElem?, List.getElem?_toArray, List.getElem?_cons_succ, List.getElem?_cons_zero, Option.getD_some, List.setIfInBounds_toArray, List.set_cons_zero, List.set_cons_succ]
    refine wpList_plain_w rfl fun K hK => ?_; go_simp
    with_reducible refine (CK RB rc w8 y8).out.mono ?_
    rintro e1 w9 ⟨rfl, V9⟩
    refine hK _ _ ?_; clear hK
    (try simp only [Act.put, List.setIfInBounds_toArray, List.set_cons_zero, List.set_cons_succ])
    refine wpList_yield_w rfl ?vp23_24 ?yp23_24 ?_
    case yp23_24 => go_simp; try with_reducible rfl
    simp only [Act.put, List.setIfInBounds_toArray, List.set_cons_zero, List.set_cons_succ]
    refine wpList_yield rfl ?vp24_25 ?yp24_25 ?_
    case yp24_25 => go_simp; try with_reducible rfl
    simp only [Act.put, List.setIfInBounds_toArray, List.set_cons_zero, List.set_cons_succ]
    refine wpList_yield rfl _ (exec_move _ rfl) ?_
    simp only [Act.put, Act.eval, Array.getD_eq_getD_getElem?, List.getElem?_toArray, List.getElem?_cons_succ, List.getElem?_cons_zero, Option.getD_some, List.setIfInBounds_toArray, List.set_cons_zero, List.set_cons_succ]
    refine wpList_yield_w rfl _ (exec_move _ rfl) ?_
    simp only [Act.put, Act.eval, Array.getD_eq_getD_getElem?, List.getElem?_toArray, List.getElem?_cons_succ, List.getElem?_cons_zero, Option.getD_some, List.setIfInBounds_toArray, List.set_cons_zero, List.set_cons_succ]
    refine wpList_yield_w rfl _ (exec_move _ rfl) ?_
    simp only [Act.put, Act.eval, Array.getD_eq_getD_getElem?, List.getElem?_toArray, List.getElem?_cons_succ, List.getElem?_cons_zero, Option.getD_some, List.setIfInBounds_toArray, List.set_cons_zero, List.set_cons_succ]
    refine wpList_yield_w rfl _ (exec_move _ rfl) ?_
    simp only [Act.put, Act.eval, Array.getD_eq_getD_getElem?, List.getElem?_toArray, List.getElem?_cons_succ, List.getElem?_cons_zero, Option.getD_some, List.setIfInBounds_toArray, List.set_cons_zero, List.set_cons_succ]
    refine wpList_yield_w rfl _ (exec_move _ rfl) ?_
    simp only [Act.put, Act.eval, Array.getD_eq_getD_getElem?, List.getElem?_toArray, List.getElem?_cons_succ, List.getElem?_cons_zero, Option.getD_some, List.setIfInBounds_toArray, List.set_cons_zero, List.set_cons_succ]
    refine wpList_yield_w rfl _ (exec_slice_mid st132 _ _ _ rfl A n c m e .i64 .i64 rfl rfl rfl hme (by omega)) ?_
    simp only [Act.put, List.setIfInBounds_toArray, List.set_cons_zero, List.set_cons_succ]
    refine wpList_plain_w rfl fun K hK => ?_; go_simp
    with_reducible refine (SM RB rc w9 (y8.below V9) (x8.below V9)).out.mono ?_
    rintro e1 w10 ⟨rfl, V10⟩
    refine hK _ _ ?_; clear hK
    (try simp only [Act.put, List.setIfInBounds_toArray, List.set_cons_zero, List.set_cons_succ])
    refine wpList_yield_w rfl ?vp25_33 ?yp25_33 ?_
    case yp25_33 => go_simp; try with_reducible rfl
    simp only [Act.put, List.setIfInBounds_toArray, List.set_cons_zero, List.set_cons_succ]
    refine wpList_yield rfl ?vp26_34 ?yp26_34 ?_
    case yp26_34 => go_simp; try with_reducible rfl
    simp only [Act.put, List.setIfInBounds_toArray, List.set_cons_zero, List.set_cons_succ]
    refine wpList_nil ?_
    have V11 : Below w8.heap.size w8 w10 := bthen V9 V10 V9.size
    have lgA := lg8.below V11
    have xA := x8.below V11
    have BA := bthen B8 V11 B8.size
    have dA := d8.below V11 d8.lt
    clear V9 V10 V11 lg8 x8 B8 c8 d8 y8 CK SM
    go_upto_region 15 with fail
    refine wp_region_lit ?_
    refine wpList_yield rfl _ (exec_move _ rfl) ?_
    simp only [Act.put, Act.eval, Array.getD_eq_getD_getElem?, List.getElem?_toArray, List.getElem?_cons_succ, List.getElem?_cons_zero, Option.getD_some, List.setIfInBounds_toArray, List.set_cons_zero, List.set_cons_succ]
    refine wpList_yield rfl _ (exec_move _ rfl) ?_
    simp only [Act.put, Act.eval, Array.getD_eq_getD_getElem?, List.getElem?_toArray, List.getElem?_cons_succ, List.getElem?_cons_zero, Option.getD_some, List.setIfInBounds_toArray, List.set_cons_zero, List.set_cons_succ]
    refine wpList_plain rfl fun K hK => ?_; go_simp
    with_reducible refine (H3 S g w10 lgA).out.mono ?_
    rintro e1 w11 ⟨rfl, hw11⟩
    refine hK _ _ ?_; clear hK
    (try simp only [Act.put, List.setIfInBounds_toArray, List.set_cons_zero, List.set_cons_succ])
    refine wpList_yield rfl _ (exec_move _ rfl) ?_
    simp only [Act.put, Act.eval, Array.getD_eq_getD_getElem?, List.getElem?_toArray, List.getElem?_cons_succ, List.getElem?_cons_zero, Option.getD_some, List.setIfInBounds_toArray, List.set_cons_zero, List.set_cons_succ]
    refine wpList_yield rfl ?vp27_4 ?yp27_4 ?_
    case yp27_4 => go_simp; try with_reducible rfl
    simp only [Act.put, List.setIfInBounds_toArray, List.set_cons_zero, List.set_cons_succ]
    refine wpList_yield rfl ?vp28_5 ?yp28_5 ?_
    case yp28_5 => go_simp; try with_reducible rfl
    simp only [Act.put, List.setIfInBounds_toArray, List.set_cons_zero, List.set_cons_succ]
    refine wpList_plain rfl fun K hK => ?_; go_simp
    refine hK _ _ ?_; clear hK
    (try simp only [Act.put, List.setIfInBounds_toArray, List.set_cons_zero, List.set_cons_succ])
    refine wpList_store_at at25w.i rfl (.tmp 20) (.tmp 119) rfl w11.heap.size 0 25 (bvs (zb 32)) (bvs fe) rfl rfl (z25 w11).out (by rw [bvs_length]; exact L2.out) (by rw [bvs_length, zb_length]; omega) (bvs_one _) ?_
    intro w12 bB gB sB
    (try simp only [Act.put, List.setIfInBounds_toArray, List.set_cons_zero, List.set_cons_succ])
    refine wpList_yield rfl _ (exec_assign _ rfl) ?_
    simp only [Act.put, Act.eval, Array.getD_eq_getD_getElem?, List.getElem?_toArray, List.getElem?_cons_succ, List.getElem?_cons_zero, Option.getD_some, List.setIfInBounds_toArray, List.set_cons_zero, List.set_cons_succ]
    refine wpList_nil ?_
    rw [splice_all _ _ (by rw [bvs_length, bvs_length, zb_length]; exact L2.out.symm)] at bB
    have VB : Below w10.heap.size w10 w12 := (hw11.alloc hw11.size (.cells (bvs (zb 32)).toArray 25)).grown gB (by have := hw11.size; simp; omega) (by intro k hk; cases hk; exact hw11.size)
    have lgB := lgA.below VB
    have xB := xA.below VB
    have BB := bthen BA VB BA.size
    have dB := dA.below VB dA.lt
    clear hw11 gB sB VB lgA xA BA dA H3 z25
    generalize w11.heap.size = g20 at *
    go_upto_region 16 with fail
    refine rg_begin (Below w12.heap.size w12) [] [11, 15, 19, 21] [0, 1, 2, 3, 4, 5, 6, 7, 8, 9, 10, 12, 13, 14, 16, 17, 18, 20, 11, 15, 19, 21, 22, 23, 24] 0 mixed (by kernel_rfl) (fun _ _ _ _ e hh => ⟨e.symm.trans hh.1, hh.2⟩) ?_
    simp only [pick, List.map_cons, List.map_nil, List.getD_cons_zero, List.getD_cons_succ]
    have hS : (Below w12.heap.size w12) _ := (Below.refl _ _).drew
    refine rg_take (v := ?v29_0) rfl rfl hS ?y29_0 ?_
    case y29_0 => intro W hW; (try subst hW); go_simp; try with_reducible rfl
    simp only [Act.put, List.setIfInBounds_toArray, List.set_cons_zero, List.set_cons_succ]
    refine rg_take (v := ?v29_1) rfl rfl hS ?y29_1 ?_
    case y29_1 => intro W hW; (try subst hW); go_simp; try with_reducible rfl
    simp only [Act.put, List.setIfInBounds_toArray, List.set_cons_zero, List.set_cons_succ]
    refine rg_take (v := ?v29_2) rfl rfl hS ?y29_2 ?_
    case y29_2 => intro W hW; (try subst hW); go_simp; try with_reducible rfl
    simp only [Act.put, List.setIfInBounds_toArray, List.set_cons_zero, List.set_cons_succ]
    refine rg_take (v := ?v29_3) rfl rfl hS ?y29_3 ?_
    case y29_3 => intro W hW; (try subst hW); go_simp; try with_reducible rfl
    simp only [Act.put, List.setIfInBounds_toArray, List.set_cons_zero, List.set_cons_succ]
    refine rg_take (v := ?v29_4) rfl rfl hS ?y29_4 ?_
    case y29_4 => intro W hW; (try subst hW); go_simp; try with_reducible rfl
    simp only [Act.put, List.setIfInBounds_toArray, List.set_cons_zero, List.set_cons_succ]
    refine rg_take (v := ?v29_5) rfl rfl hS ?y29_5 ?_
    case y29_5 => intro W hW; (try subst hW); go_simp; try with_reducible rfl
    simp only [Act.put, List.setIfInBounds_toArray, List.set_cons_zero, List.set_cons_succ]
    refine rg_take rfl rfl hS (fun W hW => exec_load_agg at25w (.tmp 20) rfl g20 25 (bvs fe) rfl (bB.below hW bB.lt) (by rw [bvs_length]; exact L2.out)) ?_
    simp only [Act.put, List.setIfInBounds_toArray, List.set_cons_zero, List.set_cons_succ]
    refine rg_take rfl rfl hS (fun W hW => exec_load_agg at25w (.tmp 14) rfl g14 25 (bvs fe) rfl (dB.below hW dB.lt) (by rw [bvs_length]; exact L2.out)) ?_
    simp only [Act.put, List.setIfInBounds_toArray, List.set_cons_zero, List.set_cons_succ]
    refine rg_take rfl rfl hS (fun W hW => exec_eql_same ab25 _ _ rfl fe rfl rfl L2.out) ?_
    simp only [Act.put, List.setIfInBounds_toArray, List.set_cons_zero, List.set_cons_succ]
    refine rg_take (v := ?v29_9) rfl rfl hS ?y29_9 ?_
    case y29_9 => intro W hW; (try subst hW); go_simp; try with_reducible rfl
    simp only [Act.put, List.setIfInBounds_toArray, List.set_cons_zero, List.set_cons_succ]
    refine rg_take (v := ?v29_10) rfl rfl hS ?y29_10 ?_
    case y29_10 => intro W hW; (try subst hW); go_simp; try with_reducible rfl
    simp only [Act.put, List.setIfInBounds_toArray, List.set_cons_zero, List.set_cons_succ]
    refine rg_take (v := ?v29_12) rfl rfl hS ?y29_12 ?_
    case y29_12 => intro W hW; (try subst hW); go_simp; try with_reducible rfl
    simp only [Act.put, List.setIfInBounds_toArray, List.set_cons_zero, List.set_cons_succ]
    refine rg_take (v := ?v29_13) rfl rfl hS ?y29_13 ?_
    case y29_13 => intro W hW; (try subst hW); go_simp; try with_reducible rfl
    simp only [Act.put, List.setIfInBounds_toArray, List.set_cons_zero, List.set_cons_succ]
    refine rg_take rfl rfl hS (fun W hW => exec_slice_to st132 _ _ rfl A n c m .i64 rfl rfl (by omega)) ?_
    simp only [Act.put, List.setIfInBounds_toArray, List.set_cons_zero, List.set_cons_succ]
    refine rg_take (v := ?v29_16) rfl rfl hS ?y29_16 ?_
    case y29_16 => intro W hW; (try subst hW); go_simp; try with_reducible rfl
    simp only [Act.put, List.setIfInBounds_toArray, List.set_cons_zero, List.set_cons_succ]
    refine rg_take (v := ?v29_17) rfl rfl hS ?y29_17 ?_
    case y29_17 => intro W hW; (try subst hW); go_simp; try with_reducible rfl
    simp only [Act.put, List.setIfInBounds_toArray, List.set_cons_zero, List.set_cons_succ]
    refine rg_take rfl rfl hS (fun W hW => exec_slice_from st132 _ _ rfl A n c m .i64 rfl rfl hmn) ?_
    simp only [Act.put, List.setIfInBounds_toArray, List.set_cons_zero, List.set_cons_succ]
    refine rg_take (v := ?v29_20) rfl rfl hS ?y29_20 ?_
    case y29_20 => intro W hW; (try subst hW); go_simp; try with_reducible rfl
    simp only [Act.put, List.setIfInBounds_toArray, List.set_cons_zero, List.set_cons_succ]
    refine rg_one rfl rfl ?_; intro K hK; go_simp
    with_reducible refine (FI _).out.mono ?_
    rintro e1 w13 ⟨rfl, V13⟩
    have hS1 : Below w12.heap.size w12 w13 := Below.trans hS (V13.mono (Below.size hS))
    refine hK _ _ (fun _ => hS1) ?_; clear hK
    refine rg_one rfl rfl ?_; intro K hK; go_simp
    with_reducible refine (FA _ (xB.below hS1)).out.mono ?_
    rintro e1 w14 ⟨rfl, V14⟩
    have hS2 : Below w12.heap.size w12 w14 := Below.trans hS1 (V14.mono (Below.size hS1))
    refine hK _ _ (fun _ => hS2) ?_; clear hK
    refine rg_one rfl rfl ?_; intro K hK; go_simp
    with_reducible refine (FB _ (xB.below hS2)).out.mono ?_
    rintro e1 w15 ⟨rfl, V15⟩
    have hS3 : Below w12.heap.size w12 w15 := Below.trans hS2 (V15.mono (Below.size hS2))
    refine hK _ _ (fun _ => hS3) ?_; clear hK
    refine rg_one rfl rfl ?_; intro K hK; go_simp
    with_reducible refine (HD S g _ (lgB.below hS3)).out.mono ?_
    rintro e1 w16 ⟨rfl, V16⟩
    have hS4 : Below w12.heap.size w12 w16 := Below.trans hS3 (V16.mono (Below.size hS3))
    refine hK _ _ (fun _ => hS4) ?_; clear hK
    refine rg_take rfl rfl hS4 (fun W hW => exec_eql_same ab25 _ _ rfl fa rfl rfl L3.out) ?_
    simp only [Act.put, List.setIfInBounds_toArray, List.set_cons_zero, List.set_cons_succ]
    refine rg_take (v := ?v29_23) rfl rfl hS4 ?y29_23 ?_
    case y29_23 => intro W hW; (try subst hW); go_simp; try with_reducible rfl
    simp only [Act.put, List.setIfInBounds_toArray, List.set_cons_zero, List.set_cons_succ]
    refine rg_take (v := ?v29_24) rfl rfl hS4 ?y29_24 ?_
    case y29_24 => intro W hW; (try subst hW); go_simp; try with_reducible rfl
    simp only [Act.put, List.setIfInBounds_toArray, List.set_cons_zero, List.set_cons_succ]
    refine rg_done (by kernel_rfl) ?_
    go_wp2_with fail
    go_ret
    exact ⟨rfl, bthen BB hS4 BB.size⟩
end Go.Proofs.Ytehbahobkgoapaa
namespace Go.Proofs.Ytehbahobkgoapaa
open Go Go.RowKit Go.ChangeShapes Go.WideShapes Go.ChangeAt
section
variable {H : Type} {enc : TypeId × Value → H} {P : Program} {W : World} {base : Nat}
theorem arr_bytes {n : Nat} {T E : TypeId} {fuel : Nat} {cs : List Value} {x : DataW H × List MemPlace} (ht : P.underlying T = some (.array n E)) (he : P.underlying E = some (.int .u8)) (hc : P.cellsOf E = 1) (hl : cs.length = n)
    (hf : DataW.trod enc P W 0 (fun _ => true) true fuel T cs = some x) : ∃ k : List UInt8, k.length = n ∧ cs = bvs k := by
  obtain ⟨xs, m, _, _, _, hxl, hi⟩ := DataW.trod_array ht hf
  have hone : ∀ i, i < n → ∃ x : UInt8, cs[i]? = some (bv x) := by
    intro i hi'
    have h1 := hi i hi'
    rw [hc, Nat.mul_one, List.drop_eq_getElem_cons (by omega), List.take_succ_cons, List.take_zero, List.getElem?_eq_getElem (by omega)] at h1
    obtain ⟨z, hz, _, hw⟩ := DataW.trod_int he h1
    injection hz with hz _
    exact ⟨_, by rw [List.getElem?_eq_getElem (by omega), hz, byte_of_int hw]⟩
  obtain ⟨f, hfn⟩ := Deep.choose_lt hone
  refine ⟨(List.range n).map f, by simp, ?_⟩
  apply List.ext_getElem?
  intro i
  simp only [bvs, List.map_map, List.getElem?_map]
  by_cases h : i < n
  · rw [hfn i h, List.getElem?_range h]; rfl
  · rw [List.getElem?_eq_none (by omega), List.getElem?_eq_none (by simp; omega)]; rfl
theorem flatf_get (f : Nat → List UInt8) (n : Nat) (h : ∀ i, i < n → (f i).length = 32) (j : Nat) (hj : j < 32 * n) : (((List.range n).map f).flatten)[j]? = (f (j / 32))[j % 32]? := by
  induction n with
  | zero => omega
  | succ n ih =>
    have h' : ∀ i, i < n → (f i).length = 32 := fun i hi => h i (by omega)
    have hl : ((List.range n).map f).flatten.length = 32 * n := by
      rw [flat32_len _ (by intro l hl; simp only [List.mem_map, List.mem_range] at hl; obtain ⟨i, hi, rfl⟩ := hl; exact h' i hi)]
      simp
    rw [List.range_succ, List.map_append, List.flatten_append]
    by_cases hlt : j < 32 * n
    · rw [List.getElem?_append_left (by omega), ih h' hlt]
    · rw [List.getElem?_append_right (by omega), hl]
      have e1 : j / 32 = n := by omega
      have e2 : j % 32 = j - 32 * n := by omega
      rw [e1, e2]; simp
theorem open_digs {T E Q : TypeId} (ht : P.underlying T = some (.slice E)) (hE : P.underlying E = some (.array 32 Q)) (hQ : P.underlying Q = some (.int .u8)) (cq : P.cellsOf Q = 1) (cE : P.cellsOf E = 32) {v : Value} {d : DataW H} {p : List MemPlace}
    (hv : Value.okWide P W .any base T v) (h : DataW.Trod enc P W 0 (fun _ => true) true T v d p) :
    ∃ A n c ls, v = .slice A n c ∧ Hl W A n c ls := by
  obtain ⟨A, n, c, rfl⟩ := okWide_slice ht hv
  obtain ⟨fuel, hf⟩ := h
  rcases Deep.open_slice ht hf with ⟨hcs, hx⟩ | ⟨a, len, cap, m, k, D, Pl, hcs, _, hl, hm, hmm, hx, hi⟩
  · simp [Value.cells] at hcs
    obtain ⟨rfl, rfl, rfl⟩ := hcs
    exact ⟨none, 0, 0, [], rfl, ⟨rfl, Nat.le_refl _, by simp, Rd.nil _ _, by simp⟩⟩
  · simp [Value.cells] at hcs
    obtain ⟨rfl, rfl, rfl⟩ := hcs
    simp only [if_true] at hmm
    subst m
    rw [cE] at hi
    obtain ⟨f, hfn⟩ := Deep.choose_lt (p := fun i (l : List UInt8) => W.cells? 0 (a.add (i * 32)) 32 = some (bvs l) ∧ l.length = 32) (n := n) (fun i hin => by
      obtain ⟨cs', h1, h2⟩ := hi i (by omega)
      obtain ⟨_, hlen, _⟩ := World.cells?_some h1
      obtain ⟨l, hl1, rfl⟩ := arr_bytes hE hQ cq hlen h2
      exact ⟨l, h1, hl1⟩)
    have hfl : ((List.range n).map f).flatten.length = 32 * n := by
      rw [flat32_len _ (by intro l hl; simp only [List.mem_map, List.mem_range] at hl; obtain ⟨i, hi, rfl⟩ := hl; exact (hfn i hi).2)]
      simp
    refine ⟨some a, n, c, (List.range n).map f, rfl, ⟨by simp, hl, hm, fun _ => ⟨a, rfl, fun j u hu => ?_⟩, ?_⟩⟩
    · have hj : j < 32 * n := by
        have := (List.getElem?_eq_some_iff.1 hu).1
        rw [bvs_length, hfl] at this; exact this
      simp only [bvs, List.getElem?_map] at hu
      rw [flatf_get f n (fun i hi => (hfn i hi).2) j hj] at hu
      obtain ⟨h1, h2⟩ := hfn (j / 32) (by omega)
      obtain ⟨_, _, h3⟩ := World.cells?_some h1
      have h4 := h3 (j % 32) (by omega)
      rw [Deep.add_add, show j / 32 * 32 + j % 32 = j by omega] at h4
      rw [h4]
      simp only [bvs, List.getElem?_map]
      exact hu
    · intro l hl
      simp only [List.mem_map, List.mem_range] at hl
      obtain ⟨i, hi, rfl⟩ := hl
      exact (hfn i hi).2
end
end Go.Proofs.Ytehbahobkgoapaa
