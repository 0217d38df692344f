import Derived.Deep.AppendLies
import Derived.Great.BuildSlice
import Derived.Great.FillDense
import Derived.Lib.SlBytesConst
import Derived.Deep.Slices
import Derived.Test.YtehbahobkgoapaaPCS2
namespace Go.Proofs.Ytehbahobkgoapaa
open Go Go.RowKit
set_option linter.unusedSimpArgs false
set_option linter.unusedVariables false
/-- The heads of the first 0, 1, .. roots. -/
def heads (rs : List (List UInt8)) : List (List UInt8) := (List.range (rs.length + 1)).map fun i => foldH firstH (rs.take i)
theorem heads_length (rs : List (List UInt8)) : (heads rs).length = rs.length + 1 := by simp [heads]
theorem heads_get (rs : List (List UInt8)) (i : Nat) (hi : i ≤ rs.length) : (heads rs).getD i [] = foldH firstH (rs.take i) := by
  simp [heads, List.getD, List.getElem?_map, List.getElem?_range (show i < rs.length + 1 by omega)]
theorem heads_snoc (rs : List (List UInt8)) (r : List UInt8) : heads (rs ++ [r]) = heads rs ++ [nextH (foldH firstH rs) r] := by
  unfold heads
  rw [show (rs ++ [r]).length + 1 = (rs.length + 1) + 1 by simp, List.range_succ, List.map_append]
  congr 1
  · apply List.map_congr_left
    intro i hi
    rw [List.take_append_of_le_length (by simp at hi; omega)]
  · simp [List.take_of_length_le, foldH, List.foldl_append]
theorem foldH_len (rs : List (List UInt8)) : (foldH firstH rs).length = 32 := foldH_length firstH rs firstH_length
theorem heads_each (rs : List (List UInt8)) : ∀ l ∈ heads rs, l.length = 32 := by
  intro l hl
  simp only [heads, List.mem_map] at hl
  obtain ⟨i, _, rfl⟩ := hl
  exact foldH_len _
/-- A log in the block G; S: the blocks that are its own. -/
structure LgP (S : Nat → Prop) (w : World) (G : Nat) (rs : List (List UInt8)) (vr vh : Value) : Prop where
  blk : Blk w G 145 [vr, vh]
  r : w.ownsRow 0 25 32 vr rs.length (bvs rs.flatten)
  h : w.ownsRow 0 25 32 vh (rs.length + 1) (bvs (heads rs).flatten)
  rS : ∀ k, vr.ownBlock = some k → S k
  hS : ∀ k, vh.ownBlock = some k → S k
  ap : ∀ k, vr.ownBlock = some k → vh.ownBlock ≠ some k
  gS : S G
  lt : ∀ k, S k → k < w.heap.size
  each : ∀ l ∈ rs, l.length = 32
  few : rs.length ≤ 4096
def Lg (S : Nat → Prop) (w : World) (G : Nat) (rs : List (List UInt8)) : Prop := ∃ vr vh, LgP S w G rs vr vh
theorem ownsRow_fr {S : Nat → Prop} {w w' : World} {base e z n : Nat} {v : Value} {xs : List Value} (h : w.ownsRow base e z v n xs) (hf : Fr S w w') (hv : ∀ k, v.ownBlock = some k → ¬ S k) : w'.ownsRow base e z v n xs := by
  obtain ⟨hl, h⟩ := h
  rcases h with ⟨rfl, rfl⟩ | ⟨g, cap, cur, rfl, hg, hh, hn, hm, hs, ht⟩
  · exact ⟨hl, .inl ⟨rfl, rfl⟩⟩
  · refine ⟨hl, .inr ⟨g, cap, cur, rfl, hg, ?_, hn, hm, hs, ht⟩⟩
    have hlt : g < w.heap.size := by
      rcases Nat.lt_or_ge g w.heap.size with h | h
      · exact h
      · rw [Array.getElem?_eq_none h] at hh; cases hh
    rw [hf.block g hlt (hv g rfl)]; exact hh
theorem Lg.fr {S T : Nat → Prop} {w w' : World} {G : Nat} {rs : List (List UInt8)} (h : Lg S w G rs) (hf : Fr T w w') (hd : ∀ k, S k → ¬ T k) : Lg S w' G rs := by
  obtain ⟨vr, vh, p⟩ := h
  exact ⟨vr, vh, p.blk.fr hf (hd _ p.gS), ownsRow_fr p.r hf (fun k e => hd k (p.rS k e)), ownsRow_fr p.h hf (fun k e => hd k (p.hS k e)), p.rS, p.hS, p.ap, p.gS, fun k hk => Nat.lt_of_lt_of_le (p.lt k hk) hf.size, p.each, p.few⟩
theorem Lg.below {S : Nat → Prop} {w w' : World} {G : Nat} {rs : List (List UInt8)} (h : Lg S w G rs) (hb : Below w.heap.size w w') : Lg S w' G rs :=
  h.fr (T := fun _ => False) (Fr.of_below hb) (fun _ _ f => f)
/-- A log as it is read. -/
structure Lv (w : World) (G : Nat) (rs : List (List UInt8)) (RA : Option Addr) (rc : Nat) (HA : Option Addr) (hc : Nat) : Prop where
  blk : Blk w G 145 [.slice RA rs.length rc, .slice HA (rs.length + 1) hc]
  r : Hl w RA rs.length rc rs
  h : Hl w HA (rs.length + 1) hc (heads rs)
  few : rs.length ≤ 4096
theorem Lg.view {S : Nat → Prop} {w : World} {G : Nat} {rs : List (List UInt8)} (h : Lg S w G rs) : ∃ RA rc HA hc, Lv w G rs RA rc HA hc := by
  obtain ⟨vr, vh, p⟩ := h
  obtain ⟨RA, rc, rfl, h1⟩ := own_hl p.r rfl p.each
  obtain ⟨HA, hc, rfl, h2⟩ := own_hl p.h (heads_length rs) (heads_each rs)
  exact ⟨RA, rc, HA, hc, p.blk, h1, h2, p.few⟩
theorem log_cells {w : World} {g : Nat} {u v : Value} (h : Blk w g 145 [u, v]) : w.cell? ⟨g, 0, none⟩ = some u ∧ w.cell? ⟨g, 1, none⟩ = some v := ⟨by rw [h.cell]; rfl, by rw [h.cell]; rfl⟩
theorem exec_l0 {w : World} {a : Act} {o : Oper} (x : Operand) (ho : o.op = .fieldAddr 145 x 0) (g : Nat) (hx : a.eval x = .pointer (some ⟨g, 0, none⟩)) : (execOp a.eval o).run Try.prog w = .ok (.value (.pointer (some ⟨g, 0, none⟩))) w := by
  unfold execOp
  simp only [ho, hx]
  go_simp
theorem exec_l1 {w : World} {a : Act} {o : Oper} (x : Operand) (ho : o.op = .fieldAddr 145 x 1) (g : Nat) (hx : a.eval x = .pointer (some ⟨g, 0, none⟩)) : (execOp a.eval o).run Try.prog w = .ok (.value (.pointer (some ⟨g, 1, none⟩))) w := by
  unfold execOp
  simp only [ho, hx]
  go_simp
theorem w132 : ∃ d, Try.prog.underlying 132 = some d ∧ d.isRow = false := ⟨_, Try.underlying132, rfl⟩
theorem exec_load132 {w : World} {a : Act} {o : Oper} (x : Operand) (ho : o.op = .load 132 x) (ad : Addr) (v : Value) (hx : a.eval x = .pointer (some ad)) (hc : w.cell? ad = some v) : (execOp a.eval o).run Try.prog w = .ok (.value v) w := by
  obtain ⟨d, hu, hd⟩ := w132
  exact exec_load_one hu hd x ho ad v hx hc
theorem digs_cells (ks : List (List UInt8)) : ((ks.map fun k => Value.agg (bvs k).toArray).flatMap fun v => v.cells.toList) = bvs ks.flatten := by
  induction ks with
  | nil => rfl
  | cons k ks ih =>
    rw [List.map_cons, List.flatMap_cons, ih, List.flatten_cons]
    show (bvs k).toArray.toList ++ _ = _
    simp [bvs]
/-- A list of digests, built of its parts. -/
theorem wp_build_digs {a : Act} {w : World} {o : Oper} {K : Act → World → Prop} {Q : Exit → Act → World → Prop} (ks : List (List UInt8)) (n : Nat) (hn : ks.length = n) (h32 : ∀ k ∈ ks, k.length = 32) (h0 : 0 < n) (hs : n ≤ 100) (parts : Array (Nat × Operand)) (ho : o.op = .buildSlice 132 n parts)
    (he : (parts.map fun (i, x) => (i, a.eval x)).toList = ((ks.map fun k => Value.agg (bvs k).toArray).zipIdx 0).map fun x => (x.2, x.1))
    (h : K (a.put o.dst (.slice (some ⟨w.heap.size, 0, none⟩) n n)) (w.alloc (.cells (bvs ks.flatten).toArray 25))) : o.wp Try.prog a w K Q := by
  obtain ⟨i, hi, hz, hsz, _⟩ := info_parts et25.i
  refine wp_buildSlice 132 25 n parts ho _ i _ Try.underlying132 hi hz (by rw [hsz]; omega) (by rw [hsz]; omega) ?_ h
  rw [he, hsz, Great.fill_whole (by omega) _ _ ?_ ?_, digs_cells]
  · intro v hv
    obtain ⟨k, hk, rfl⟩ := List.mem_map.1 hv
    show (bvs k).toArray.size = 32
    simp [bvs, h32 k hk]
  · simp [hn]
theorem wp_build_dig1 {a : Act} {w : World} {o : Oper} {K : Act → World → Prop} {Q : Exit → Act → World → Prop} (k : List UInt8) (hk : k.length = 32) (x : Operand) (ho : o.op = .buildSlice 132 1 #[(0, x)]) (hx : a.eval x = .agg (bvs k).toArray)
    (h : K (a.put o.dst (.slice (some ⟨w.heap.size, 0, none⟩) 1 1)) (w.alloc (.cells (bvs k).toArray 25))) : o.wp Try.prog a w K Q := by
  refine wp_build_digs [k] 1 rfl (by intro l hl; simp at hl; subst hl; exact hk) (by omega) (by omega) _ ho (by simp [hx]) ?_
  simpa using h
set_option maxRecDepth 100000 in
set_option maxHeartbeats 1000000 in
theorem lnone_no {S : Nat → Prop} (g : Nat) (rs : List (List UInt8)) (w : World) (h : Lg S w g rs) : Calls Try.prog 154 #[.pointer (some ⟨g, 0, none⟩)] w fun e w' => e = .returned (.bool false) ∧ w = w' := by
  obtain ⟨RA, rc, HA, hc, v⟩ := h.view
  have hcl := (log_cells v.blk).2
  have hne : (((rs.length + 1 : Nat) : Int) == 0) = false := by simp; omega
  generalize rs.length + 1 = m at *
  clear v h
  go_enter Try.func154, Try.ntmps154
  go_wp2
  go_ret
  exact ⟨rfl, rfl⟩
set_option maxRecDepth 100000 in
set_option maxHeartbeats 1000000 in
theorem new_log (w : World) : Calls Try.prog 148 #[] w fun e w' => ∃ g S, e = .returned (.pointer (some ⟨g, 0, none⟩)) ∧ Lg S w' g [] ∧ (∀ k, S k → w.heap.size ≤ k) ∧ Below w.heap.size w w' := by
  have C := fun u => Lib.hid (cfirst_any u)
  rw [show shaL [4] = firstH from rfl] at C
  have HL := Lib.hid firstH_length
  have hH : Hid (heads [] = [firstH]) := Lib.hid rfl
  generalize firstH = FH at *
  unfold arr8 at C
  go_enter Try.func148, Try.ntmps148
  go_upto_region 1 with fail
  refine wp_region_lit ?_
  refine wpList_plain rfl fun K hK => ?_; go_simp
  with_reducible refine (C _).out.mono ?_
  rintro e w1 ⟨rfl, hw1⟩
  refine hK _ _ ?_; clear hK
  (try simp only [Act.put, List.setIfInBounds_toArray, List.set_cons_zero, List.set_cons_succ])
  refine wpList_plain rfl fun K hK => ?_
  refine wp_build_dig1 FH HL.out _ rfl rfl ?_
  refine hK _ _ ?_; clear hK
  (try simp only [Act.put, List.setIfInBounds_toArray, List.set_cons_zero, List.set_cons_succ])
  refine wpList_yield rfl _ (exec_build _ rfl #[.slice none 0 0, .slice (some ⟨w1.heap.size, 0, none⟩) 1 1] (by kernel_rfl)) ?_
  simp only [Act.put, List.setIfInBounds_toArray, List.set_cons_zero, List.set_cons_succ]
  refine wpList_plain rfl fun K hK => ?_; go_simp
  refine hK _ _ ?_; clear hK
  (try simp only [Act.put, List.setIfInBounds_toArray, List.set_cons_zero, List.set_cons_succ])
  refine wpList_yield rfl _ (exec_assign _ rfl) ?_
  simp only [Act.put, Act.eval, Array.getD_eq_getD_getElem?, List.getElem?_toArray, List.getElem?_cons_succ, List.getElem?_cons_zero, Option.getD_some, List.setIfInBounds_toArray, List.set_cons_zero, List.set_cons_succ]
  refine wpList_nil ?_
  go_wp2_with fail
  go_ret
  have hb : Blk (w1.alloc (.cells (bvs FH).toArray 25)) w1.heap.size 25 (bvs FH) := Blk.new _ _ _
  have hw2 : Below w1.heap.size w1 (w1.alloc (.cells (bvs FH).toArray 25)) := (Below.refl _ _).alloc (Nat.le_refl _) _
  have hsz : (w1.alloc (.cells (bvs FH).toArray 25)).heap.size = w1.heap.size + 1 := by simp
  have hc : Blk ((w1.alloc (.cells (bvs FH).toArray 25)).alloc (.cells #[.slice none 0 0, .slice (some ⟨w1.heap.size, 0, none⟩) 1 1] 145)) (w1.heap.size + 1) 145 [.slice none 0 0, .slice (some ⟨w1.heap.size, 0, none⟩) 1 1] := by rw [← hsz]; exact Blk.new _ _ _
  have hb3 := hb.alloc (.cells #[.slice none 0 0, .slice (some ⟨w1.heap.size, 0, none⟩) 1 1] 145)
  refine ⟨w1.heap.size + 1, fun k => k = w1.heap.size ∨ k = w1.heap.size + 1, rfl, ⟨_, _, hc, ?_, ?_, ?_, ?_, ?_, .inr rfl, ?_, by simp, by simp⟩, ?_, ?_⟩
  · exact World.ownsRow_nil _ _ _ _
  · rw [hH.out]
    simpa using ownsRow_of_blk 0 32 1 hb3 (Nat.zero_le _) (by simp [bvs, HL.out]) (by unfold maxLen; omega)
  · intro k hk; cases hk
  · intro k hk; cases hk; exact .inl rfl
  · intro k hk; cases hk
  · intro k hk; have := hw1.size; simp; omega
  · intro k hk; have := hw1.size; omega
  · exact ((hw1.trans (hw2.mono hw1.size)).alloc (by have := hw1.size; simp; omega) _)
end Go.Proofs.Ytehbahobkgoapaa
namespace Go.Proofs.Ytehbahobkgoapaa
open Go Go.RowKit
set_option linter.unusedSimpArgs false
set_option linter.unusedVariables false
theorem cell_below {w w' : World} {p : Addr} {u : Value} (h : Below w.heap.size w w') (hp : w.cell? p = some u) : w'.cell? p = some u := (h.cell (World.block_lt_of_cell? w p hp)).trans hp
set_option maxRecDepth 100000 in
set_option maxHeartbeats 1000000 in
theorem loglen_any {S : Nat → Prop} (g : Nat) (rs : List (List UInt8)) (w : World) (h : Lg S w g rs) : Calls Try.prog 116 #[.pointer (some ⟨g, 0, none⟩)] w fun e w' => e = .returned (.int .i64 (rs.length : Int)) ∧ w = w' := by
  obtain ⟨RA, rc, HA, hc, v⟩ := h.view
  have hcl := Lib.hid (log_cells v.blk).1
  have C := Lib.hid (lnone_no g rs w h)
  generalize rs.length = n at *
  clear v h
  go_enter Try.func116, Try.ntmps116
  go_upto_region 3 with (first
    | (go_at_call 154; with_reducible refine C.out.mono ?_; rintro e w1 ⟨rfl, rfl⟩))
  refine wp_region_lit ?_
  refine wpList_yield rfl _ (exec_move _ rfl) ?_
  simp only [Act.put, Act.eval, Array.getD_eq_getD_getElem?, List.getElem?_toArray, List.getElem?_cons_succ, List.getElem?_cons_zero, Option.getD_some, List.setIfInBounds_toArray, List.set_cons_zero, List.set_cons_succ]
  refine wpList_yield rfl _ (exec_nilck _ rfl _ rfl) ?_
  simp only [Act.put, List.setIfInBounds_toArray, List.set_cons_zero, List.set_cons_succ]
  refine wpList_yield rfl _ (exec_l0 _ rfl g rfl) ?_
  simp only [Act.put, List.setIfInBounds_toArray, List.set_cons_zero, List.set_cons_succ]
  refine wpList_yield rfl _ (exec_load132 _ rfl _ _ rfl hcl.out) ?_
  simp only [Act.put, List.setIfInBounds_toArray, List.set_cons_zero, List.set_cons_succ]
  refine wpList_yield rfl _ (exec_len132 _ rfl RA n rc rfl) ?_
  simp only [Act.put, List.setIfInBounds_toArray, List.set_cons_zero, List.set_cons_succ]
  refine wpList_yield rfl _ (exec_assign _ rfl) ?_
  simp only [Act.put, Act.eval, Array.getD_eq_getD_getElem?, List.getElem?_toArray, List.getElem?_cons_succ, List.getElem?_cons_zero, Option.getD_some, List.setIfInBounds_toArray, List.set_cons_zero, List.set_cons_succ]
  refine wpList_nil ?_
  go_wp2_with fail
  go_ret
  exact ⟨rfl, rfl⟩
set_option maxRecDepth 100000 in
set_option maxHeartbeats 1000000 in
theorem loghead_any {S : Nat → Prop} (g : Nat) (rs : List (List UInt8)) (w : World) (h : Lg S w g rs) : Calls Try.prog 120 #[.pointer (some ⟨g, 0, none⟩)] w fun e w' => e = .returned (arr8 (foldH firstH rs)) ∧ Below w.heap.size w w' := by
  have hbz : Blk (w.alloc (.cells (bvs (zb 32)).toArray 25)) w.heap.size 25 (bvs (zb 32)) := Blk.new _ _ _
  have hw0 : Below w.heap.size w (w.alloc (.cells (bvs (zb 32)).toArray 25)) := (Below.refl _ _).alloc (Nat.le_refl _) _
  have h0 := h.below hw0
  obtain ⟨RA, rc, HA, hc, v⟩ := h0.view
  have hcl := Lib.hid (log_cells v.blk)
  have C := Lib.hid (lnone_no g rs _ h0)
  obtain ⟨ad, rfl, hrd, h32⟩ := v.h.at rs.length (by omega)
  rw [heads_get rs rs.length (Nat.le_refl _), List.take_length] at hrd h32
  have HRL := Lib.hid h32
  generalize foldH firstH rs = res at *
  generalize rs.length = n at *
  clear v h0 h h32
  unfold arr8
  have hall := And.intro hbz (And.intro hw0 (And.intro hcl (And.intro C hrd)))
  clear hbz hw0 hcl C hrd
  go_enter Try.func120, Try.ntmps120
  go_upto_region 1 with fail
  generalize hW : World.alloc w _ = w0
  have hall : Blk w0 w.heap.size 25 (bvs (zb 32)) ∧ Below w.heap.size w w0 ∧ Hid (w0.cell? ⟨g, 0, none⟩ = some (.slice RA n rc) ∧ w0.cell? ⟨g, 1, none⟩ = some (.slice (some ad) (n + 1) hc)) ∧ Hid (Calls Try.prog 154 #[.pointer (some ⟨g, 0, none⟩)] w0 fun e w' => e = .returned (.bool false) ∧ w0 = w') ∧ Rd w0 (some (ad.add (n * 32))) (bvs res) := by rw [← hW]; exact hall
  clear hW
  obtain ⟨hbz, hw0, hcl, C, hrd⟩ := hall
  go_upto_region 3 with (first
    | (go_at_call 154; with_reducible refine C.out.mono ?_; rintro e w1 ⟨rfl, rfl⟩))
  clear C
  refine rg_begin (Below w0.heap.size w0) [11] [11] [0, 1, 2, 3, 4, 5, 6, 7, 8, 9, 10, 11] 0 mixed (by kernel_rfl) (fun _ _ _ _ e hh => ⟨e.symm.trans hh.1, hh.2⟩) ?_
  simp only [pick, List.map_cons, List.map_nil, List.getD_cons_zero, List.getD_cons_succ]
  have hS : (Below w0.heap.size w0) _ := (Below.refl _ _).drew
  refine rg_take (v := ?v1_0) rfl rfl hS ?y1_0 ?_
  case y1_0 => intro W hW; (try subst hW); go_simp; try with_reducible rfl
  simp only [Act.put, List.setIfInBounds_toArray, List.set_cons_zero, List.set_cons_succ]
  refine rg_take rfl rfl hS (fun W hW => exec_nilck _ rfl _ rfl) ?_
  simp only [Act.put, List.setIfInBounds_toArray, List.set_cons_zero, List.set_cons_succ]
  refine rg_take rfl rfl hS (fun W hW => exec_l1 _ rfl g rfl) ?_
  simp only [Act.put, List.setIfInBounds_toArray, List.set_cons_zero, List.set_cons_succ]
  refine rg_take rfl rfl hS (fun W hW => exec_load132 _ rfl _ _ rfl (cell_below hW hcl.out.2)) ?_
  simp only [Act.put, List.setIfInBounds_toArray, List.set_cons_zero, List.set_cons_succ]
  refine rg_take (v := ?v1_4) rfl rfl hS ?y1_4 ?_
  case y1_4 => intro W hW; (try subst hW); go_simp; try with_reducible rfl
  simp only [Act.put, List.setIfInBounds_toArray, List.set_cons_zero, List.set_cons_succ]
  refine rg_take rfl rfl hS (fun W hW => exec_nilck _ rfl _ rfl) ?_
  simp only [Act.put, List.setIfInBounds_toArray, List.set_cons_zero, List.set_cons_succ]
  refine rg_take rfl rfl hS (fun W hW => exec_l0 _ rfl g rfl) ?_
  simp only [Act.put, List.setIfInBounds_toArray, List.set_cons_zero, List.set_cons_succ]
  refine rg_take rfl rfl hS (fun W hW => exec_load132 _ rfl _ _ rfl (cell_below hW hcl.out.1)) ?_
  simp only [Act.put, List.setIfInBounds_toArray, List.set_cons_zero, List.set_cons_succ]
  refine rg_take rfl rfl hS (fun W hW => exec_len132 _ rfl RA n rc rfl) ?_
  simp only [Act.put, List.setIfInBounds_toArray, List.set_cons_zero, List.set_cons_succ]
  refine rg_take rfl rfl hS (fun W hW => exec_siaz Try.underlying132 sz25 _ _ rfl ad (n + 1) hc n _ rfl rfl (by omega)) ?_
  simp only [Act.put, List.setIfInBounds_toArray, List.set_cons_zero, List.set_cons_succ]
  refine rg_take rfl rfl hS (fun W hW => exec_load_rd at25w _ rfl _ (bvs res) rfl (hrd.below hW) (by omega) (by rw [bvs_length]; exact HRL.out)) ?_
  simp only [Act.put, List.setIfInBounds_toArray, List.set_cons_zero, List.set_cons_succ]
  refine rg_one rfl rfl ?_; intro K hK
  refine wp_store_at at25w.i (.tmp 2) (.tmp 16) rfl w.heap.size 0 25 (bvs (zb 32)) (bvs res) rfl rfl hbz.drew (by rw [bvs_length]; exact HRL.out) (by rw [bvs_length, zb_length]; omega) (bvs_one _) ?_
  intro w4 hb4 hg4 hs4
  refine hK _ _ (fun h => by cases h) ?_; clear hK
  refine rg_done (by kernel_rfl) ?_
  go_wp2_with fail
  (try simp only [Exit.inBlock, Exit.then])
  rw [splice_all _ _ (by rw [bvs_length, bvs_length, zb_length]; exact HRL.out.symm)] at hb4
  refine bodyPost_ret (ret_cell rfl at25w _ _ w.heap.size 25 (bvs res) rfl hb4 (by rw [bvs_length]; exact HRL.out)) rfl ?_
  exact ⟨rfl, (hw0.drew).grown hg4 hw0.size (by intro k hk; cases hk; omega)⟩
end Go.Proofs.Ytehbahobkgoapaa
namespace Go.Proofs.Ytehbahobkgoapaa
open Go Go.RowKit
set_option linter.unusedSimpArgs false
set_option linter.unusedVariables false
theorem one132 : (Try.prog.info? 132).map (·.size) = some 1 := by kernel_rfl
theorem row_ne {S : Nat → Prop} {w w' : World} {g n base e z : Nat} {v : Value} {xs cs : List Value} (h : w.ownsRow base e z v n xs) (hb : Blk w g 145 cs) (he : e ≠ 145) : ∀ k, v.ownBlock = some k → k ≠ g := by
  intro k hk
  obtain ⟨_, ds, hd⟩ := ownsRow_blk h hk
  exact hd.ne hb he
/-- append(s, k): a digest behind a list of the log's own. -/
theorem wp_append_dig {w : World} {o : Oper} {a : Act} {K : Act → World → Prop} {Q : Exit → Act → World → Prop} (s x : Operand) (ho : o.op = .call { callee := .builtin .append, args := #[s, x], argTypes := #[132, 132] })
    (v : Value) (n : Nat) (ls : List (List UInt8)) (hs : a.eval s = v) (hown : w.ownsRow 0 25 32 v n (bvs ls.flatten)) (ad : Addr) (hx : a.eval x = .slice (some ad) 1 1) (k : List UInt8) (hk : k.length = 32) (hr : Rd w (some ad) (bvs k)) (hn : n ≤ 5000) (H : Nat) (hH : w.heap.size = H)
    (h : ∀ g cap w', w'.ownsRow 0 25 32 (.slice (some ⟨g, 0, none⟩) (n + 1) cap) (n + 1) (bvs (ls ++ [k]).flatten) → w.grownBy w' v.ownBlock → (v.ownBlock = some g ∨ g = H) → g < w'.heap.size → K (a.put o.dst (.slice (some ⟨g, 0, none⟩) (n + 1) cap)) w') : o.wp Try.prog a w K Q := by
  obtain ⟨i, hi, hz, hsz, hb⟩ := info_parts et25.i
  obtain ⟨ad', e, hc⟩ := hr (by rw [bvs_length]; omega)
  cases e
  refine wp_append_lies w s x 132 ho 0 25 i _ 32 32 Try.underlying132 hi hz hsz hb et25.c (by omega) v n (bvs ls.flatten) hs hown ad 1 1 (bvs k) hx (by rw [bvs_length, hk]) hc (bvs_one _) (by omega) (by unfold maxLen; omega) (by omega) (Nat.zero_le _) H hH ?_
  intro g cap w' h1 h2 h3 h4
  exact h g cap w' (by simpa [bvs] using h1) h2 h3 h4
/-- Half of it: the heads are written. -/
theorem add_half {S : Nat → Prop} {w w1 w2 : World} {g gh ch : Nat} {rs : List (List UInt8)} {vr vh : Value} {x : List UInt8} (p : LgP S w g rs vr vh) (hb1 : Below w.heap.size w w1) (hg : w1.grownBy w2 vh.ownBlock)
    (ho : w2.ownsRow 0 25 32 (.slice (some ⟨gh, 0, none⟩) (rs.length + 1 + 1) ch) (rs.length + 1 + 1) (bvs (heads rs ++ [x]).flatten)) (hat : vh.ownBlock = some gh ∨ gh = w1.heap.size) (hlt : gh < w2.heap.size) :
    Blk w2 g 145 [vr, vh] ∧ Blk (w2.setCell ⟨g, 1, none⟩ (.slice (some ⟨gh, 0, none⟩) (rs.length + 1 + 1) ch)) g 145 [vr, .slice (some ⟨gh, 0, none⟩) (rs.length + 1 + 1) ch] ∧ (w2.setCell ⟨g, 1, none⟩ (.slice (some ⟨gh, 0, none⟩) (rs.length + 1 + 1) ch)).ownsRow 0 25 32 vr rs.length (bvs rs.flatten) ∧
    (w2.setCell ⟨g, 1, none⟩ (.slice (some ⟨gh, 0, none⟩) (rs.length + 1 + 1) ch)).ownsRow 0 25 32 (.slice (some ⟨gh, 0, none⟩) (rs.length + 1 + 1) ch) (rs.length + 1 + 1) (bvs (heads rs ++ [x]).flatten) ∧ Fr S w (w2.setCell ⟨g, 1, none⟩ (.slice (some ⟨gh, 0, none⟩) (rs.length + 1 + 1) ch)) := by
  have hS := hb1.size
  have p1 := p.blk.below hb1 p.blk.lt
  have r1 := ownsRow_below p.r hb1
  have h1 := ownsRow_below p.h hb1
  have hneh : ∀ k, vh.ownBlock = some k → k ≠ g := row_ne (S := S) (w' := w) p.h p.blk (by decide)
  have hner : ∀ k, vr.ownBlock = some k → k ≠ g := row_ne (S := S) (w' := w) p.r p.blk (by decide)
  have p2 : Blk w2 g 145 [vr, vh] := p1.grown hg (fun e => hneh g e.symm rfl)
  have r2 : w2.ownsRow 0 25 32 vr rs.length (bvs rs.flatten) := r1.kept hg (by
    cases hv : vr.ownBlock with
    | none => exact .inl rfl
    | some k => exact .inr (fun e => p.ap k hv e.symm))
  have hgh : gh ≠ g := by
    obtain ⟨_, ds, hd⟩ := ownsRow_blk (g := gh) ho rfl
    exact hd.ne p2 (by decide)
  have hset : Fr (· = g) w2 (w2.setCell ⟨g, 1, none⟩ (.slice (some ⟨gh, 0, none⟩) (rs.length + 1 + 1) ch)) := Fr.setCell (p := ⟨g, 1, none⟩) (Fr.refl (· = g) w2) (.inl rfl) _
  refine ⟨p2, by simpa using p2.set_ 1 (.slice (some ⟨gh, 0, none⟩) (rs.length + 1 + 1) ch), ownsRow_fr r2 hset (fun k e => hner k e), ownsRow_fr ho hset (fun k e => by cases e; exact hgh), ?_⟩
  refine Fr.setCell (p := ⟨g, 1, none⟩) ?_ (.inl p.gS) _
  exact (Fr.of_below hb1).grown hg (fun k e => .inl (p.hS k e))
theorem add_done {S : Nat → Prop} {w w1 w3 w4 w5 : World} {g gh ch gr cr : Nat} {rs : List (List UInt8)} {vr vh : Value} {r : List UInt8} (p : LgP S w g rs vr vh) (lr : r.length = 32) (hf : rs.length < 4096)
    (hat : vh.ownBlock = some gh ∨ gh = w1.heap.size) (hlt : gh < w3.heap.size) (hs1 : w.heap.size ≤ w1.heap.size) (hb3 : Blk w3 g 145 [vr, .slice (some ⟨gh, 0, none⟩) (rs.length + 1 + 1) ch])
    (hr3 : w3.ownsRow 0 25 32 vr rs.length (bvs rs.flatten)) (hh3 : w3.ownsRow 0 25 32 (.slice (some ⟨gh, 0, none⟩) (rs.length + 1 + 1) ch) (rs.length + 1 + 1) (bvs (heads rs ++ [nextH (foldH firstH rs) r]).flatten)) (f3 : Fr S w w3)
    (hb34 : Below w3.heap.size w3 w4) (hg : w4.grownBy w5 vr.ownBlock) (ho : w5.ownsRow 0 25 32 (.slice (some ⟨gr, 0, none⟩) (rs.length + 1) cr) (rs.length + 1) (bvs (rs ++ [r]).flatten)) (hat2 : vr.ownBlock = some gr ∨ gr = w4.heap.size) (hlt2 : gr < w5.heap.size) :
    Blk w5 g 145 [vr, .slice (some ⟨gh, 0, none⟩) (rs.length + 1 + 1) ch] ∧
    Lg (fun k => S k ∨ (w.heap.size ≤ k ∧ k < (w5.setCell ⟨g, 0, none⟩ (.slice (some ⟨gr, 0, none⟩) (rs.length + 1) cr)).heap.size)) (w5.setCell ⟨g, 0, none⟩ (.slice (some ⟨gr, 0, none⟩) (rs.length + 1) cr)) g (rs ++ [r]) ∧ Fr S w (w5.setCell ⟨g, 0, none⟩ (.slice (some ⟨gr, 0, none⟩) (rs.length + 1) cr)) := by
  have hner : ∀ k, vr.ownBlock = some k → k ≠ g := row_ne (S := S) (w' := w) p.r p.blk (by decide)
  have hs3 := f3.size
  have hs4 := hb34.size
  have hs5 := hg.size
  have hghS : S gh ∨ w.heap.size ≤ gh := by
    rcases hat with e | e
    · exact .inl (p.hS _ e)
    · exact .inr (by omega)
  have hgrS : S gr ∨ w.heap.size ≤ gr := by
    rcases hat2 with e | e
    · exact .inl (p.rS _ e)
    · exact .inr (by omega)
  have hne : gr ≠ gh := by
    rcases hat2 with e | e
    · rcases hat with e' | e'
      · intro h; exact p.ap gr e (by rw [h]; exact e')
      · have := p.lt _ (p.rS _ e); omega
    · omega
  have p4 := hb3.below hb34 hb3.lt
  have h4 := ownsRow_below hh3 hb34
  have p5 : Blk w5 g 145 [vr, .slice (some ⟨gh, 0, none⟩) (rs.length + 1 + 1) ch] := p4.grown hg (fun e => hner g e.symm rfl)
  have hvne : (Value.slice (some ⟨gh, 0, none⟩) (rs.length + 1 + 1) ch).ownBlock ≠ vr.ownBlock := by
    intro e
    have e' : vr.ownBlock = some gh := e.symm
    rcases hat with e2 | e2
    · exact p.ap gh e' e2
    · have := p.lt _ (p.rS _ e'); omega
  have h5 := h4.kept hg (.inr hvne)
  have hgr : gr ≠ g := by
    obtain ⟨_, ds, hd⟩ := ownsRow_blk (g := gr) ho rfl
    exact hd.ne p5 (by decide)
  have hgh : gh ≠ g := by
    obtain ⟨_, ds, hd⟩ := ownsRow_blk (g := gh) hh3 rfl
    exact hd.ne hb3 (by decide)
  have hset : Fr (· = g) w5 (w5.setCell ⟨g, 0, none⟩ (.slice (some ⟨gr, 0, none⟩) (rs.length + 1) cr)) := Fr.setCell (p := ⟨g, 0, none⟩) (Fr.refl (· = g) w5) (.inl rfl) _
  have hsz : (w5.setCell ⟨g, 0, none⟩ (.slice (some ⟨gr, 0, none⟩) (rs.length + 1) cr)).heap.size = w5.heap.size := by simp [World.setCell]
  have hfr : Fr S w (w5.setCell ⟨g, 0, none⟩ (.slice (some ⟨gr, 0, none⟩) (rs.length + 1) cr)) := Fr.setCell (p := ⟨g, 0, none⟩) ((f3.below hb34).grown hg (fun k e => .inl (p.rS k e))) (.inl p.gS) _
  refine ⟨p5, ⟨_, _, by simpa using p5.set_ 0 (.slice (some ⟨gr, 0, none⟩) (rs.length + 1) cr), ?_, ?_, ?_, ?_, ?_, .inl p.gS, ?_, ?_, ?_⟩, hfr⟩
  · simpa using ownsRow_fr ho hset (fun k e => by cases e; exact hgr)
  · rw [heads_snoc]
    simpa using ownsRow_fr h5 hset (fun k e => by cases e; exact hgh)
  · intro k hk; cases hk
    rcases hgrS with h | h
    · exact .inl h
    · exact .inr ⟨h, by rw [hsz]; exact hlt2⟩
  · intro k hk; cases hk
    rcases hghS with h | h
    · exact .inl h
    · exact .inr ⟨h, by rw [hsz]; show gh < _; omega⟩
  · intro k hk; cases hk; intro e; injection e with e; exact hne e.symm
  · intro k hk
    rcases hk with hk | hk
    · have := p.lt k hk; rw [hsz]; omega
    · exact hk.2
  · intro l hl
    rcases List.mem_append.1 hl with h | h
    · exact p.each l h
    · simp at h; subst h; exact lr
  · simp; omega
set_option maxRecDepth 100000 in
set_option maxHeartbeats 1000000 in
theorem add_any {S : Nat → Prop} (g : Nat) (rs : List (List UInt8)) (r : List UInt8) (w : World) (h : Lg S w g rs) (lr : r.length = 32) (hf : rs.length < 4096) :
    Calls Try.prog 122 #[.pointer (some ⟨g, 0, none⟩), arr8 r] w fun e w' => ∃ S', e = .returned (.tuple #[.int .i64 ((rs.length + 1 : Nat) : Int), .int .i64 0]) ∧ Lg S' w' g (rs ++ [r]) ∧ (∀ k, S' k → S k ∨ w.heap.size ≤ k) ∧ Fr S w w' := by
  obtain ⟨vr, vh, p⟩ := h
  have hbr : Blk (w.alloc (.cells (bvs r).toArray 25)) w.heap.size 25 (bvs r) := Blk.new _ _ _
  have hw0 : Below w.heap.size w (w.alloc (.cells (bvs r).toArray 25)) := (Below.refl _ _).alloc (Nat.le_refl _) _
  have h0 : Lg S (w.alloc (.cells (bvs r).toArray 25)) g rs := Lg.below ⟨vr, vh, p⟩ hw0
  have C := Lib.hid (lnone_no g rs _ h0)
  have p0 := p.blk.below hw0 p.blk.lt
  have hh0 := ownsRow_below p.h hw0
  have hr0 := ownsRow_below p.r hw0
  obtain ⟨HA, hc, rfl, hl⟩ := own_hl hh0 (heads_length rs) (heads_each rs)
  obtain ⟨RA, rc, rfl, hl2⟩ := own_hl hr0 rfl p.each
  obtain ⟨ad, rfl, hrd, h32⟩ := hl.at rs.length (by omega)
  rw [heads_get rs rs.length (Nat.le_refl _), List.take_length] at hrd h32
  have CN := fun u => Lib.hid (cnext_any (foldH firstH rs) r u h32 lr)
  have LR := Lib.hid lr
  have HX : Hid (shaL (5 :: (foldH firstH rs ++ r)) = nextH (foldH firstH rs) r) := Lib.hid rfl
  have HXL : Hid ((nextH (foldH firstH rs) r).length = 32) := Lib.hid (nextH_length _ _)
  have HFL := Lib.hid h32
  have P := Lib.hid p
  rw [HX.out] at CN
  have HALF := fun (x : List UInt8) (w1 w2 : World) (gh ch : Nat) (a1 : Below w.heap.size w w1) a2 a3 a4 a5 => add_half (x := x) (w1 := w1) (w2 := w2) (gh := gh) (ch := ch) p a1 a2 a3 a4 a5
  have DONE := fun (w1 w3 w4 w5 : World) (gh ch gr cr : Nat) a1 a2 a3 a4 a5 a6 a7 a8 a9 a10 a11 a12 => add_done (w1 := w1) (w3 := w3) (w4 := w4) (w5 := w5) (gh := gh) (ch := ch) (gr := gr) (cr := cr) p lr hf a1 a2 a3 a4 a5 a6 a7 a8 a9 a10 a11 a12
  have NEG : ∀ {k : Nat}, (Value.slice (some ad) (rs.length + 1) hc).ownBlock = some k → k ≠ g := fun {k} => row_ne (S := S) (w' := w) p.h p.blk (by decide) k
  have NEZ : (Value.slice (some ad) (rs.length + 1) hc).ownBlock ≠ some w.heap.size := fun e => by have := p.lt _ (p.hS _ e); omega
  have NRG : ∀ {k : Nat}, (Value.slice RA rs.length rc).ownBlock = some k → k ≠ g := fun {k} => row_ne (S := S) (w' := w) p.r p.blk (by decide) k
  have NRZ : (Value.slice RA rs.length rc).ownBlock ≠ some w.heap.size := fun e => by have := p.lt _ (p.rS _ e); omega
  generalize nextH (foldH firstH rs) r = x at *
  generalize foldH firstH rs = fo at *
  generalize hnd : rs.length = n at *
  have hge : ¬ (4096 : Int) ≤ (n : Int) := by omega
  unfold arr8 at *
  have hall := And.intro hbr (And.intro hw0 (And.intro p0 (And.intro C (And.intro hrd hh0))))
  clear hbr hw0 h0 C p0 hh0 hr0 hl hl2 hrd h32
  go_enter Try.func122, Try.ntmps122
  go_upto_region 1 with fail
  generalize hW : World.alloc w _ = w0
  have hall : Blk w0 w.heap.size 25 (bvs r) ∧ Below w.heap.size w w0 ∧ Blk w0 g 145 [.slice RA n rc, .slice (some ad) (n + 1) hc] ∧ Hid (Calls Try.prog 154 #[.pointer (some ⟨g, 0, none⟩)] w0 fun e w' => e = .returned (.bool false) ∧ w0 = w') ∧ Rd w0 (some (ad.add (n * 32))) (bvs fo) ∧ w0.ownsRow 0 25 32 (.slice (some ad) (n + 1) hc) (n + 1) (bvs (heads rs).flatten) := by rw [← hW]; exact hall
  clear hW
  obtain ⟨hbr, hw0, p0, C, hrd, hh0⟩ := hall
  have hcl := Lib.hid (log_cells p0)
  go_upto_region 3 with (first
    | (go_at_call 154; with_reducible refine C.out.mono ?_; rintro e w1 ⟨rfl, rfl⟩))
  refine wp_region_lit ?_
  refine wpList_yield rfl _ (exec_move _ rfl) ?_
  simp only [Act.put, Act.eval, Array.getD_eq_getD_getElem?, List.getElem?_toArray, List.getElem?_cons_succ, List.getElem?_cons_zero, Option.getD_some, List.setIfInBounds_toArray, List.set_cons_zero, List.set_cons_succ]
  refine wpList_yield rfl _ (exec_nilck _ rfl _ rfl) ?_
  simp only [Act.put, List.setIfInBounds_toArray, List.set_cons_zero, List.set_cons_succ]
  refine wpList_yield rfl _ (exec_l0 _ rfl g rfl) ?_
  simp only [Act.put, List.setIfInBounds_toArray, List.set_cons_zero, List.set_cons_succ]
  refine wpList_yield rfl _ (exec_load132 _ rfl _ _ rfl hcl.out.1) ?_
  simp only [Act.put, List.setIfInBounds_toArray, List.set_cons_zero, List.set_cons_succ]
  refine wpList_yield rfl _ (exec_len132 _ rfl RA n rc rfl) ?_
  simp only [Act.put, List.setIfInBounds_toArray, List.set_cons_zero, List.set_cons_succ]
  refine wpList_yield rfl ?vp1_5 ?yp1_5 ?_
  case yp1_5 => go_simp; try with_reducible rfl
  simp only [Act.put, List.setIfInBounds_toArray, List.set_cons_zero, List.set_cons_succ]
  refine wpList_nil ?_
  go_upto_region 5 with fail
  clear C hcl
  generalize hgz : w.heap.size = gz at *
  refine rg_begin (fun W => Blk W g 145 [.slice RA n rc, .slice (some ad) (n + 1) hc] ∧ Blk W gz 25 (bvs r)) [22] [15, 17, 18, 19, 20, 21, 22] [0, 1, 2, 3, 4, 5, 6, 7, 8, 9, 10, 11, 12, 13, 14, 16, 15, 17, 18, 19, 20, 21, 22] 0 mixed (by kernel_rfl) (fun _ _ _ _ e hh => ⟨e.symm.trans hh.1, hh.2⟩) ?_
  simp only [pick, List.map_cons, List.map_nil, List.getD_cons_zero, List.getD_cons_succ]
  have hS : (fun W => Blk W g 145 [.slice RA n rc, .slice (some ad) (n + 1) hc] ∧ Blk W gz 25 (bvs r)) _ := ⟨p0.drew, hbr.drew⟩
  refine rg_take (v := ?v2_0) rfl rfl hS ?y2_0 ?_
  case y2_0 => intro W hW; (try subst hW); go_simp; try with_reducible rfl
  simp only [Act.put, List.setIfInBounds_toArray, List.set_cons_zero, List.set_cons_succ]
  refine rg_take (v := ?v2_1) rfl rfl hS ?y2_1 ?_
  case y2_1 => intro W hW; (try subst hW); go_simp; try with_reducible rfl
  simp only [Act.put, List.setIfInBounds_toArray, List.set_cons_zero, List.set_cons_succ]
  refine rg_take rfl rfl hS (fun W hW => exec_nilck _ rfl _ rfl) ?_
  simp only [Act.put, List.setIfInBounds_toArray, List.set_cons_zero, List.set_cons_succ]
  refine rg_take rfl rfl hS (fun W hW => exec_l1 _ rfl g rfl) ?_
  simp only [Act.put, List.setIfInBounds_toArray, List.set_cons_zero, List.set_cons_succ]
  refine rg_take rfl rfl hS (fun W hW => exec_load132 _ rfl _ _ rfl (log_cells hW.1).2) ?_
  simp only [Act.put, List.setIfInBounds_toArray, List.set_cons_zero, List.set_cons_succ]
  refine rg_take (v := ?v2_5) rfl rfl hS ?y2_5 ?_
  case y2_5 => intro W hW; (try subst hW); go_simp; try with_reducible rfl
  simp only [Act.put, List.setIfInBounds_toArray, List.set_cons_zero, List.set_cons_succ]
  refine rg_take rfl rfl hS (fun W hW => exec_nilck _ rfl _ rfl) ?_
  simp only [Act.put, List.setIfInBounds_toArray, List.set_cons_zero, List.set_cons_succ]
  refine rg_take rfl rfl hS (fun W hW => exec_l1 _ rfl g rfl) ?_
  simp only [Act.put, List.setIfInBounds_toArray, List.set_cons_zero, List.set_cons_succ]
  refine rg_take rfl rfl hS (fun W hW => exec_load132 _ rfl _ _ rfl (log_cells hW.1).2) ?_
  simp only [Act.put, List.setIfInBounds_toArray, List.set_cons_zero, List.set_cons_succ]
  refine rg_take (v := ?v2_9) rfl rfl hS ?y2_9 ?_
  case y2_9 => intro W hW; (try subst hW); go_simp; try with_reducible rfl
  simp only [Act.put, List.setIfInBounds_toArray, List.set_cons_zero, List.set_cons_succ]
  refine rg_take rfl rfl hS (fun W hW => exec_nilck _ rfl _ rfl) ?_
  simp only [Act.put, List.setIfInBounds_toArray, List.set_cons_zero, List.set_cons_succ]
  refine rg_take rfl rfl hS (fun W hW => exec_l0 _ rfl g rfl) ?_
  simp only [Act.put, List.setIfInBounds_toArray, List.set_cons_zero, List.set_cons_succ]
  refine rg_take rfl rfl hS (fun W hW => exec_load132 _ rfl _ _ rfl (log_cells hW.1).1) ?_
  simp only [Act.put, List.setIfInBounds_toArray, List.set_cons_zero, List.set_cons_succ]
  refine rg_take rfl rfl hS (fun W hW => exec_len132 _ rfl RA n rc rfl) ?_
  simp only [Act.put, List.setIfInBounds_toArray, List.set_cons_zero, List.set_cons_succ]
  refine rg_take rfl rfl hS (fun W hW => exec_siaz Try.underlying132 sz25 _ _ rfl ad (n + 1) hc n _ rfl rfl (by omega)) ?_
  simp only [Act.put, List.setIfInBounds_toArray, List.set_cons_zero, List.set_cons_succ]
  refine rg_take rfl rfl hS (fun W hW => exec_load_agg at25w (.tmp 3) rfl gz 25 (bvs r) rfl hW.2 (by rw [bvs_length]; exact LR.out)) ?_
  simp only [Act.put, List.setIfInBounds_toArray, List.set_cons_zero, List.set_cons_succ]
  refine rg_one rfl rfl ?_; intro K hK
  refine wp_pure (exec_load_rd at25w _ rfl _ (bvs fo) rfl hrd.drew (by omega) (by rw [bvs_length]; exact HFL.out)) ?_
  refine hK _ _ (fun _ => hS) ?_; clear hK
  simp only [Act.put, List.setIfInBounds_toArray, List.set_cons_zero, List.set_cons_succ]
  refine rg_one rfl rfl ?_; intro K hK; go_simp
  with_reducible refine (CN _).out.mono ?_
  rintro e w2 ⟨rfl, hw2⟩
  have hS1 := And.intro (hS.1.below hw2 hS.1.lt) (hS.2.below hw2 hS.2.lt)
  refine hK _ _ (fun _ => hS1) ?_; clear hK
  refine rg_one rfl rfl ?_; intro K hK
  refine wp_build_dig1 x HXL.out _ rfl rfl ?_
  have hS2 := And.intro (hS1.1.alloc (.cells (bvs x).toArray 25)) (hS1.2.alloc (.cells (bvs x).toArray 25))
  have hx2 : Blk (w2.alloc (.cells (bvs x).toArray 25)) w2.heap.size 25 (bvs x) := Blk.new _ _ _
  have hB1 : Below w0.heap.size w0 (w2.alloc (.cells (bvs x).toArray 25)) := ((Below.refl w0.heap.size w0).drew.trans hw2).alloc hw2.size _
  refine hK _ _ (fun _ => hS2) ?_; clear hK
  generalize World.alloc w2 _ = w3 at *
  generalize w2.heap.size = gy at *
  refine rg_one rfl rfl ?_; intro K hK
  refine wp_append_dig (.tmp 18) (.tmp 32) rfl (.slice (some ad) (n + 1) hc) (n + 1) (heads rs) rfl (ownsRow_below hh0 hB1) ⟨gy, 0, none⟩ rfl x HXL.out (Rd.of_blk0 (es := []) (by simpa using hx2)) (by omega) w3.heap.size rfl ?_
  intro gh ch w4 ho4 hg4 hat4 hlt4
  have hS3 := And.intro (hS2.1.grown hg4 (fun e => NEG (by rw [← e]) rfl)) (hS2.2.grown hg4 (fun e => NEZ (by rw [← e])))
  refine hK _ _ (fun _ => hS3) ?_; clear hK
  refine rg_one rfl rfl ?_; intro K hK
  refine wp_pure (exec_nilck _ rfl _ rfl) ?_
  refine hK _ _ (fun _ => hS3) ?_; clear hK
  simp only [Act.put, List.setIfInBounds_toArray, List.set_cons_zero, List.set_cons_succ]
  refine rg_one rfl rfl ?_; intro K hK
  refine wp_pure (exec_l1 _ rfl g rfl) ?_
  refine hK _ _ (fun _ => hS3) ?_; clear hK
  simp only [Act.put, List.setIfInBounds_toArray, List.set_cons_zero, List.set_cons_succ]
  refine rg_one rfl rfl ?_; intro K hK
  refine wp_store_one one132 _ _ rfl g 1 145 _ (.slice (some ⟨gh, 0, none⟩) (n + 1 + 1) ch) rfl rfl rfl hS3.1 (by simp) ?_
  refine hK _ _ (fun h => by cases h) ?_; clear hK
  refine rg_done (by kernel_rfl) ?_
  have hs03 := hB1.size
  have hgw : gz ≤ w0.heap.size := by rw [← hgz]; exact hw0.size
  have HB1 : Hid (Below gz w w3) := Lib.hid (hw0.trans (hB1.mono hgw))
  have hs3 := hg4.size
  have hgne : gz ≠ g := by have := p.blk.lt; omega
  have HF := Lib.hid (HALF x w3 w4 gh ch HB1.out hg4 ho4 hat4 hlt4)
  clear HALF hS hS1 hx2 p0 hh0 hrd hbr CN HX HXL HFL hall
  have hz4 := hS3.2.far (p := ⟨g, 1, none⟩) hgne (.slice (some ⟨gh, 0, none⟩) (n + 1 + 1) ch)
  have p5 := HF.out.2.1
  have hsw5 : (World.setCell w4 ⟨g, 1, none⟩ (.slice (some ⟨gh, 0, none⟩) (n + 1 + 1) ch)).heap.size = w4.heap.size := by simp [World.setCell]
  generalize hW5 : World.setCell w4 _ _ = w5 at *
  have hlt5 : Hid (gh < w5.heap.size) := Lib.hid (by rw [hsw5]; exact hlt4)
  clear hsw5 hW5
  go_upto_region 6 with fail
  refine rg_begin (fun W => Blk W g 145 [.slice RA n rc, .slice (some ⟨gh, 0, none⟩) (n + 1 + 1) ch] ∧ Blk W gz 25 (bvs r)) [10] [6, 7, 8, 9, 10] [0, 1, 2, 3, 4, 5, 6, 7, 8, 9, 10] 0 mixed (by kernel_rfl) (fun _ _ _ _ e hh => ⟨e.symm.trans hh.1, hh.2⟩) ?_
  simp only [pick, List.map_cons, List.map_nil, List.getD_cons_zero, List.getD_cons_succ]
  have hS6 : (fun W => Blk W g 145 [.slice RA n rc, .slice (some ⟨gh, 0, none⟩) (n + 1 + 1) ch] ∧ Blk W gz 25 (bvs r)) _ := ⟨p5.drew, hz4.drew⟩
  refine rg_take (v := ?v3_0) rfl rfl hS6 ?y3_0 ?_
  case y3_0 => intro W hW; (try subst hW); go_simp; try with_reducible rfl
  simp only [Act.put, List.setIfInBounds_toArray, List.set_cons_zero, List.set_cons_succ]
  refine rg_take (v := ?v3_1) rfl rfl hS6 ?y3_1 ?_
  case y3_1 => intro W hW; (try subst hW); go_simp; try with_reducible rfl
  simp only [Act.put, List.setIfInBounds_toArray, List.set_cons_zero, List.set_cons_succ]
  refine rg_take rfl rfl hS6 (fun W hW => exec_nilck _ rfl _ rfl) ?_
  simp only [Act.put, List.setIfInBounds_toArray, List.set_cons_zero, List.set_cons_succ]
  refine rg_take rfl rfl hS6 (fun W hW => exec_l0 _ rfl g rfl) ?_
  simp only [Act.put, List.setIfInBounds_toArray, List.set_cons_zero, List.set_cons_succ]
  refine rg_take rfl rfl hS6 (fun W hW => exec_load132 _ rfl _ _ rfl (log_cells hW.1).1) ?_
  simp only [Act.put, List.setIfInBounds_toArray, List.set_cons_zero, List.set_cons_succ]
  refine rg_take rfl rfl hS6 (fun W hW => exec_load_agg at25w (.tmp 3) rfl gz 25 (bvs r) rfl hW.2 (by rw [bvs_length]; exact LR.out)) ?_
  simp only [Act.put, List.setIfInBounds_toArray, List.set_cons_zero, List.set_cons_succ]
  refine rg_one rfl rfl ?_; intro K hK
  refine wp_build_dig1 r LR.out _ rfl rfl ?_
  have hS7 := And.intro (hS6.1.alloc (.cells (bvs r).toArray 25)) (hS6.2.alloc (.cells (bvs r).toArray 25))
  have hx7 : Blk (w5.drew.alloc (.cells (bvs r).toArray 25)) w5.drew.heap.size 25 (bvs r) := Blk.new _ _ _
  have hB7 : Below w5.heap.size w5 (w5.drew.alloc (.cells (bvs r).toArray 25)) := (Below.refl w5.heap.size w5).drew.alloc (Nat.le_refl _) _
  refine hK _ _ (fun _ => hS7) ?_; clear hK
  generalize World.alloc w5.drew _ = w7 at *
  generalize w5.drew.heap.size = gy2 at *
  refine rg_one rfl rfl ?_; intro K hK
  refine wp_append_dig (.tmp 40) (.tmp 42) rfl (.slice RA n rc) n rs rfl (ownsRow_below HF.out.2.2.1 hB7) ⟨gy2, 0, none⟩ rfl r LR.out (Rd.of_blk0 (es := []) (by simpa using hx7)) (by omega) w7.heap.size rfl ?_
  intro gr cr w8 ho8 hg8 hat8 hlt8
  have hS8 := And.intro (hS7.1.grown hg8 (fun e => NRG (by rw [← e]) rfl)) (hS7.2.grown hg8 (fun e => NRZ (by rw [← e])))
  refine hK _ _ (fun _ => hS8) ?_; clear hK
  refine rg_one rfl rfl ?_; intro K hK
  refine wp_pure (exec_nilck _ rfl _ rfl) ?_
  refine hK _ _ (fun _ => hS8) ?_; clear hK
  simp only [Act.put, List.setIfInBounds_toArray, List.set_cons_zero, List.set_cons_succ]
  refine rg_one rfl rfl ?_; intro K hK
  refine wp_pure (exec_l0 _ rfl g rfl) ?_
  refine hK _ _ (fun _ => hS8) ?_; clear hK
  simp only [Act.put, List.setIfInBounds_toArray, List.set_cons_zero, List.set_cons_succ]
  refine rg_one rfl rfl ?_; intro K hK
  refine wp_store_one one132 _ _ rfl g 0 145 _ (.slice (some ⟨gr, 0, none⟩) (n + 1) cr) rfl rfl rfl hS8.1 (by simp) ?_
  refine hK _ _ (fun h => by cases h) ?_; clear hK
  refine rg_done (by kernel_rfl) ?_
  have D := DONE w3 w5 w7 w8 gh ch gr cr hat4 hlt5.out (by have := hB1.size; omega) p5 HF.out.2.2.1 HF.out.2.2.2.1 HF.out.2.2.2.2 hB7 hg8 ho8 hat8 hlt8
  have h9 := Lib.hid D.2
  have hb9 := hS8.1.set_ 0 (.slice (some ⟨gr, 0, none⟩) (n + 1) cr)
  clear DONE D hS6 hS7 hS8 hx7 hB7 hz4 p5 HF hg8 ho8 hat8 hlt8
  generalize World.setCell w8 _ _ = w9 at *
  have hcl := Lib.hid (log_cells hb9).1
  go_upto_region 7 with fail
  refine wp_region_lit ?_
  refine wpList_yield rfl _ (exec_move _ rfl) ?_
  simp only [Act.put, Act.eval, Array.getD_eq_getD_getElem?, List.getElem?_toArray, List.getElem?_cons_succ, List.getElem?_cons_zero, Option.getD_some, List.setIfInBounds_toArray, List.set_cons_zero, List.set_cons_succ]
  refine wpList_yield rfl _ (exec_nilck _ rfl _ rfl) ?_
  simp only [Act.put, List.setIfInBounds_toArray, List.set_cons_zero, List.set_cons_succ]
  refine wpList_yield rfl _ (exec_l0 _ rfl g rfl) ?_
  simp only [Act.put, List.setIfInBounds_toArray, List.set_cons_zero, List.set_cons_succ]
  refine wpList_yield rfl _ (exec_load132 _ rfl _ _ rfl hcl.out) ?_
  simp only [Act.put, List.setIfInBounds_toArray, List.set_cons_zero, List.set_cons_succ]
  refine wpList_yield rfl _ (exec_len132 _ rfl (some ⟨gr, 0, none⟩) (n + 1) cr rfl) ?_
  simp only [Act.put, List.setIfInBounds_toArray, List.set_cons_zero, List.set_cons_succ]
  refine wpList_yield rfl _ (exec_assign _ rfl) ?_
  simp only [Act.put, Act.eval, Array.getD_eq_getD_getElem?, List.getElem?_toArray, List.getElem?_cons_succ, List.getElem?_cons_zero, Option.getD_some, List.setIfInBounds_toArray, List.set_cons_zero, List.set_cons_succ]
  refine wpList_yield rfl _ (exec_assign _ rfl) ?_
  simp only [Act.put, Act.eval, Array.getD_eq_getD_getElem?, List.getElem?_toArray, List.getElem?_cons_succ, List.getElem?_cons_zero, Option.getD_some, List.setIfInBounds_toArray, List.set_cons_zero, List.set_cons_succ]
  refine wpList_nil ?_
  go_wp2_with fail
  go_ret2
  exact ⟨_, rfl, h9.out.1, fun k hk => hk.elim .inl (fun h => .inr (by rw [hgz]; exact h.1)), h9.out.2⟩
end Go.Proofs.Ytehbahobkgoapaa
namespace Go.Proofs.Ytehbahobkgoapaa
open Go Go.RowKit
set_option linter.unusedSimpArgs false
set_option linter.unusedVariables false
set_option linter.unusedSectionVars false
/-- pv is no state, in every world that meets N. -/
def NoSt (N : World → Prop) (pv : Value) : Prop := ∀ u, N u → Calls Try.prog 142 #[pv] u fun e w' => e = .returned (.bool true) ∧ u = w'
section
variable {N : World → Prop} {pv : Value} (C : NoSt N pv) (w : World) (hN : N w)
include C hN
end
theorem marked_rd (u : World) (l : List UInt8) (m k : Nat) (cs : Array Value) (hc : cs = (bvs l).toArray) : Rd (u.alloc (.cells cs 5 (m, k))) (some ⟨u.heap.size, 0, none⟩) (bvs l) := by
  subst hc
  intro _
  refine ⟨_, rfl, ?_⟩
  intro i v hv
  rw [add_none, Nat.zero_add]
  have h : (u.alloc (.cells (bvs l).toArray 5 (m, k))).heap[u.heap.size]? = some (.cells (bvs l).toArray 5 (m, k)) := by
    show (u.heap.push _)[u.heap.size]? = _
    simp
  unfold World.cell?
  simp only [h]
  simpa using hv
end Go.Proofs.Ytehbahobkgoapaa
namespace Go.Proofs.Ytehbahobkgoapaa
open Go Go.RowKit
set_option linter.unusedSimpArgs false
set_option linter.unusedVariables false
theorem next_is (k v : List UInt8) (w : World) (lk : k.length = 32) (lv : v.length = 32) : Calls Try.prog 108 #[arr8 k, arr8 v] w fun e w' => e = .returned (arr8 (nextH k v)) ∧ Below w.heap.size w w' := cnext_any k v w lk lv
theorem first_is (w : World) : Calls Try.prog 106 #[] w fun e w' => e = .returned (arr8 firstH) ∧ Below w.heap.size w w' := cfirst_any w
theorem add_is {S : Nat → Prop} (g : Nat) (rs : List (List UInt8)) (r : List UInt8) (w : World) (h : Lg S w g rs) (lr : r.length = 32) (hf : rs.length < 4096) (z : Int) (hz : z = ((rs.length + 1 : Nat) : Int)) :
    Calls Try.prog 122 #[.pointer (some ⟨g, 0, none⟩), arr8 r] w fun e w' => ∃ S', e = .returned (.tuple #[.int .i64 z, .int .i64 0]) ∧ Lg S' w' g (rs ++ [r]) ∧ (∀ k, S' k → S k ∨ w.heap.size ≤ k) ∧ Fr S w w' := by
  subst hz; exact add_any g rs r w h lr hf
theorem loglen_is {S : Nat → Prop} (g : Nat) (rs : List (List UInt8)) (w : World) (h : Lg S w g rs) (z : Int) (hz : z = (rs.length : Int)) : Calls Try.prog 116 #[.pointer (some ⟨g, 0, none⟩)] w fun e w' => e = .returned (.int .i64 z) ∧ w = w' := by
  subst hz; exact loglen_any g rs w h
theorem loghead_is {S : Nat → Prop} (g : Nat) (rs : List (List UInt8)) (w : World) (h : Lg S w g rs) (d : List UInt8) (hd : foldH firstH rs = d) : Calls Try.prog 120 #[.pointer (some ⟨g, 0, none⟩)] w fun e w' => e = .returned (arr8 d) ∧ Below w.heap.size w w' := by
  subst hd; exact loghead_any g rs w h
theorem below_fr {B : Nat} {S : Nat → Prop} {w a b : World} (h : Below B w a) (f : Fr S a b) (hB : B ≤ a.heap.size) (hS : ∀ k, S k → B ≤ k) : Below B w b :=
  ⟨f.os.trans h.os, f.tape.trans h.tape, f.output.trans h.output, Nat.le_trans h.size f.size, fun k hk => (f.block k (by omega) (fun s => by have := hS k s; omega)).trans (h.block k hk)⟩
set_option maxRecDepth 100000 in
set_option maxHeartbeats 4000000 in
theorem awake_any (w : World) : Calls Try.prog 113 #[] w fun e w' => e = .returned (.bool true) ∧ Below w.heap.size w w' := by
  have kc := fun (w : World) (C : Array Value) (n c : Nat) => Lib.run_convert_bytes_const (P := Try.prog) w 24 5 C n c Try.underlying24 Try.underlying5
  have TA : ∀ u : World, Hid (Tx (u.alloc (.cells #[.int .u8 97] 5 (1, 2))) (some ⟨u.heap.size, 0, none⟩) 1 1 [97]) := fun u => Lib.hid
    ⟨rfl, Nat.le_refl _, by unfold maxLen; omega, marked_rd u [97] 1 2 _ rfl, fun _ _ h => h⟩
  have TB : ∀ u : World, Hid (Tx (u.alloc (.cells #[.int .u8 98] 5 (1, 2))) (some ⟨u.heap.size, 0, none⟩) 1 1 [98]) := fun u => Lib.hid
    ⟨rfl, Nat.le_refl _, by unfold maxLen; omega, marked_rd u [98] 1 2 _ rfl, fun _ _ h => h⟩
  have SA := fun (G : Nat) (u : World) (h : Tx u (some ⟨G, 0, none⟩) 1 1 [97]) => Lib.hid (sum_tx (some ⟨G, 0, none⟩) 1 1 [97] u h (by omega))
  have SB := fun (G : Nat) (u : World) (h : Tx u (some ⟨G, 0, none⟩) 1 1 [98]) => Lib.hid (sum_tx (some ⟨G, 0, none⟩) 1 1 [98] u h (by omega))
  have LA := Lib.hid (shaL_length [97])
  have LB := Lib.hid (shaL_length [98])
  generalize shaL [97] = dA at *
  generalize shaL [98] = dB at *
  have NW := fun u => Lib.hid (new_log u)
  have FI := fun u => Lib.hid (first_is u)
  have HFI := Lib.hid firstH_length
  have H0 := fun (S : Nat → Prop) (g : Nat) (u : World) (h : Lg S u g []) => Lib.hid (loghead_is g [] u h firstH rfl)
  have L0 := fun (S : Nat → Prop) (g : Nat) (u : World) (h : Lg S u g []) => Lib.hid (loglen_is g [] u h 0 rfl)
  have A1 := fun (S : Nat → Prop) (g : Nat) (u : World) (h : Lg S u g []) => Lib.hid (add_is g [] dA u h LA.out (by decide) 1 rfl)
  have A2 := fun (S : Nat → Prop) (g : Nat) (u : World) (h : Lg S u g [dA]) => Lib.hid (add_is g [dA] dB u h LB.out (by simp) 2 rfl)
  have N1 := fun (u : World) => Lib.hid (next_is firstH dA u HFI.out LA.out)
  have HN1 : Hid ((nextH firstH dA).length = 32) := Lib.hid (nextH_length _ _)
  have N2 := fun (u : World) => Lib.hid (next_is (nextH firstH dA) dB u HN1.out LB.out)
  have HN2 : Hid ((nextH (nextH firstH dA) dB).length = 32) := Lib.hid (nextH_length _ _)
  have H2 := fun (S : Nat → Prop) (g : Nat) (u : World) (h : Lg S u g [dA, dB]) => Lib.hid (loghead_is g [dA, dB] u h (nextH (nextH firstH dA) dB) rfl)
  generalize nextH (nextH firstH dA) dB = h2 at *
  generalize nextH firstH dA = h1 at *
  generalize firstH = FH at *
  have z25 : ∀ u : World, Hid (Blk (u.alloc (.cells (bvs (zb 32)).toArray 25)) u.heap.size 25 (bvs (zb 32))) := fun u => Lib.hid (Blk.new _ _ _)
  unfold arr8 at *
  have z25b : ∀ u : World, Hid (Blk ((u.alloc (.cells (bvs (zb 32)).toArray 25)).alloc (.cells (bvs (zb 32)).toArray 25)) (u.heap.size + 1) 25 (bvs (zb 32))) := fun u => Lib.hid (by
    have := Blk.new (u.alloc (.cells (bvs (zb 32)).toArray 25)) 25 (bvs (zb 32))
    rwa [show (u.alloc (.cells (bvs (zb 32)).toArray 25)).heap.size = u.heap.size + 1 by simp] at this)
  go_enter Try.func113, Try.ntmps113
  go_upto_region 2 with (first
    | (go_at_call 79; refine (SA _ _ (TA _).out).out.mono ?_; rintro e w1 ⟨rfl, hw1⟩)
    | (go_at_call 79; refine (SB _ _ (TB _).out).out.mono ?_; rintro e w2 ⟨rfl, hw2⟩)
    | ((with_reducible refine at_op (Op.store 25 (.tmp 1) (.tmp 10)) ?_); refine wpList_store_at at25w.i rfl (.tmp 1) (.tmp 10) rfl w2.heap.size 0 25 (bvs (zb 32)) (bvs dA) rfl rfl ((z25 w2).out.alloc _) (by rw [bvs_length]; exact LA.out) (by rw [bvs_length, zb_length]; omega) (bvs_one _) ?_; intro w3 hb3 hg3 hs3)
    | ((with_reducible refine at_op (Op.store 25 (.tmp 2) (.tmp 13)) ?_); refine wpList_store_at at25w.i rfl (.tmp 2) (.tmp 13) rfl (w2.heap.size + 1) 0 25 (bvs (zb 32)) (bvs dB) rfl rfl ((z25b w2).out.grown hg3 (by simp)) (by rw [bvs_length]; exact LB.out) (by rw [bvs_length, zb_length]; omega) (bvs_one _) ?_; intro w4 hb4 hg4 hs4))
  rw [splice_all _ _ (by rw [bvs_length, bvs_length, zb_length, LA.out])] at hb3
  rw [splice_all _ _ (by rw [bvs_length, bvs_length, zb_length, LB.out])] at hb4
  have hBa : Below w.heap.size w (w.alloc (.cells #[.int .u8 97] 5 (1, 2))) := (Below.refl _ _).alloc (Nat.le_refl _) _
  have hB1 := bthen hBa hw1 hBa.size
  have hBb := hB1.alloc hB1.size (.cells #[.int .u8 98] 5 (1, 2))
  have hB2 := bthen hBb hw2 hBb.size
  have hB3 : Below w.heap.size w w3 := ((hB2.alloc hB2.size _).alloc (by have := hB2.size; simp; omega) _).grown hg3 (by have := hB2.size; simp; omega) (by intro k hk; cases hk; exact hB2.size)
  have hB4 : Below w.heap.size w w4 := hB3.grown hg4 hB3.size (by intro k hk; cases hk; have := hB2.size; omega)
  have pa := hb3.grown hg4 (by simp)
  clear hBa hB1 hBb hB3 hw1 hw2 hb3 hg3 hs3 hg4 hs4 kc TA TB SA SB z25 z25b
  have hsz := hB2.size
  clear hB2
  generalize w2.heap.size = ga at *
  go_upto_region 3 with (first
    | (go_at_call 148; with_reducible refine (NW _).out.mono ?_; rintro e w5 ⟨g, S, rfl, hl5, hS5, hw5⟩))
  have qa := pa.below hw5 pa.lt
  have qb := hb4.below hw5 hb4.lt
  have hB5 := bthen hB4 hw5 hB4.size
  have hna : ¬ S ga := fun h => by have := hS5 _ h; have := pa.lt; omega
  have hnb : ¬ S (ga + 1) := fun h => by have := hS5 _ h; have := hb4.lt; omega
  have hnw : ∀ k, S k → w.heap.size ≤ k := fun k h => by have := hS5 _ h; have := hB4.size; omega
  clear hw5 pa hb4 hB4 hS5
  refine wp_region_lit ?_
  refine wpList_yield rfl _ (exec_move _ rfl) ?_
  simp only [Act.put, Act.eval, Array.getD_eq_getD_getElem?, List.getElem?_toArray, List.getElem?_cons_succ, List.getElem?_cons_zero, Option.getD_some, List.setIfInBounds_toArray, List.set_cons_zero, List.set_cons_succ]
  refine wpList_yield rfl ?vp1_1 ?yp1_1 ?_
  case yp1_1 => go_simp; try with_reducible rfl
  simp only [Act.put, List.setIfInBounds_toArray, List.set_cons_zero, List.set_cons_succ]
  refine wpList_yield rfl _ (exec_move _ rfl) ?_
  simp only [Act.put, Act.eval, Array.getD_eq_getD_getElem?, List.getElem?_toArray, List.getElem?_cons_succ, List.getElem?_cons_zero, Option.getD_some, List.setIfInBounds_toArray, List.set_cons_zero, List.set_cons_succ]
  refine wpList_yield_w rfl _ (exec_move _ rfl) ?_
  simp only [Act.put, Act.eval, Array.getD_eq_getD_getElem?, List.getElem?_toArray, List.getElem?_cons_succ, List.getElem?_cons_zero, Option.getD_some, List.setIfInBounds_toArray, List.set_cons_zero, List.set_cons_succ]
  refine wpList_plain_w rfl fun K hK => ?_; go_simp
  with_reducible refine (H0 S g w5 hl5).out.mono ?_
  rintro e w6 ⟨rfl, hw6⟩
  refine hK _ _ ?_; clear hK
  (try simp only [Act.put, List.setIfInBounds_toArray, List.set_cons_zero, List.set_cons_succ])
  refine wpList_plain_w rfl fun K hK => ?_; go_simp
  with_reducible refine (FI w6).out.mono ?_
  rintro e w7 ⟨rfl, hw7⟩
  refine hK _ _ ?_; clear hK
  (try simp only [Act.put, List.setIfInBounds_toArray, List.set_cons_zero, List.set_cons_succ])
  refine wpList_yield_w rfl _ (exec_neq_same ab25 _ _ rfl FH rfl rfl HFI.out) ?_
  simp only [Act.put, List.setIfInBounds_toArray, List.set_cons_zero, List.set_cons_succ]
  refine wpList_yield rfl ?vp2_7 ?yp2_7 ?_
  case yp2_7 => go_simp; try with_reducible rfl
  simp only [Act.put, List.setIfInBounds_toArray, List.set_cons_zero, List.set_cons_succ]
  refine wpList_yield rfl _ (exec_move _ rfl) ?_
  simp only [Act.put, Act.eval, Array.getD_eq_getD_getElem?, List.getElem?_toArray, List.getElem?_cons_succ, List.getElem?_cons_zero, Option.getD_some, List.setIfInBounds_toArray, List.set_cons_zero, List.set_cons_succ]
  refine wpList_yield_w rfl _ (exec_move _ rfl) ?_
  simp only [Act.put, Act.eval, Array.getD_eq_getD_getElem?, List.getElem?_toArray, List.getElem?_cons_succ, List.getElem?_cons_zero, Option.getD_some, List.setIfInBounds_toArray, List.set_cons_zero, List.set_cons_succ]
  refine wpList_plain_w rfl fun K hK => ?_; go_simp
  with_reducible refine (L0 S g w7 ((hl5.below hw6).below hw7)).out.mono ?_
  rintro e _ ⟨rfl, rfl⟩
  refine hK _ _ ?_; clear hK
  (try simp only [Act.put, List.setIfInBounds_toArray, List.set_cons_zero, List.set_cons_succ])
  refine wpList_yield_w rfl ?vp3_11 ?yp3_11 ?_
  case yp3_11 => go_simp; try with_reducible rfl
  simp only [Act.put, List.setIfInBounds_toArray, List.set_cons_zero, List.set_cons_succ]
  refine wpList_yield rfl ?vp4_12 ?yp4_12 ?_
  case yp4_12 => go_simp; try with_reducible rfl
  simp only [Act.put, List.setIfInBounds_toArray, List.set_cons_zero, List.set_cons_succ]
  refine wpList_nil ?_
  have hl7 := (hl5.below hw6).below hw7
  have ra := (qa.below hw6 qa.lt).below hw7 (qa.below hw6 qa.lt).lt
  have rb := (qb.below hw6 qb.lt).below hw7 (qb.below hw6 qb.lt).lt
  have hB7 := bthen (bthen hB5 hw6 hB5.size) hw7 (bthen hB5 hw6 hB5.size).size
  clear hl5 qa qb hB5 hw6 hw7
  go_upto_region 5 with fail
  refine wp_region_lit ?_
  refine wpList_yield rfl _ (exec_move _ rfl) ?_
  simp only [Act.put, Act.eval, Array.getD_eq_getD_getElem?, List.getElem?_toArray, List.getElem?_cons_succ, List.getElem?_cons_zero, Option.getD_some, List.setIfInBounds_toArray, List.set_cons_zero, List.set_cons_succ]
  refine wpList_yield rfl _ (exec_load_agg at25w (.tmp 1) rfl ga 25 (bvs dA) rfl ra (by rw [bvs_length]; exact LA.out)) ?_
  simp only [Act.put, List.setIfInBounds_toArray, List.set_cons_zero, List.set_cons_succ]
  refine wpList_plain rfl fun K hK => ?_; go_simp
  with_reducible refine (A1 S g w7 hl7).out.mono ?_
  rintro e w8 ⟨S2, rfl, hl8, hS8, hf8⟩
  refine hK _ _ ?_; clear hK
  (try simp only [Act.put, List.setIfInBounds_toArray, List.set_cons_zero, List.set_cons_succ])
  refine wpList_yield rfl _ (exec_move _ rfl) ?_
  simp only [Act.put, Act.eval, Array.getD_eq_getD_getElem?, List.getElem?_toArray, List.getElem?_cons_succ, List.getElem?_cons_zero, Option.getD_some, List.setIfInBounds_toArray, List.set_cons_zero, List.set_cons_succ]
  refine wpList_yield rfl ?vp5_4 ?yp5_4 ?_
  case yp5_4 => go_simp; try with_reducible rfl
  simp only [Act.put, List.setIfInBounds_toArray, List.set_cons_zero, List.set_cons_succ]
  refine wpList_yield rfl ?vp6_5 ?yp6_5 ?_
  case yp6_5 => go_simp; try with_reducible rfl
  simp only [Act.put, List.setIfInBounds_toArray, List.set_cons_zero, List.set_cons_succ]
  refine wpList_yield rfl _ (exec_assign _ rfl) ?_
  simp only [Act.put, Act.eval, Array.getD_eq_getD_getElem?, List.getElem?_toArray, List.getElem?_cons_succ, List.getElem?_cons_zero, Option.getD_some, List.setIfInBounds_toArray, List.set_cons_zero, List.set_cons_succ]
  refine wpList_yield rfl _ (exec_assign _ rfl) ?_
  simp only [Act.put, Act.eval, Array.getD_eq_getD_getElem?, List.getElem?_toArray, List.getElem?_cons_succ, List.getElem?_cons_zero, Option.getD_some, List.setIfInBounds_toArray, List.set_cons_zero, List.set_cons_succ]
  refine wpList_nil ?_
  have ra8 := ra.fr hf8 hna
  have rb8 := rb.fr hf8 hnb
  have hB8 := below_fr hB7 hf8 hB7.size hnw
  have hna2 : ¬ S2 ga := fun h => (hS8 _ h).elim hna (fun h2 => by have := ra.lt; omega)
  have hnb2 : ¬ S2 (ga + 1) := fun h => (hS8 _ h).elim hnb (fun h2 => by have := rb.lt; omega)
  have hnw2 : ∀ k, S2 k → w.heap.size ≤ k := fun k h => (hS8 _ h).elim (hnw k) (fun h2 => by have := hB7.size; omega)
  rw [List.nil_append] at hl8
  clear ra rb hB7 hS8 hf8 hna hnb hnw hl7
  go_upto_region 6 with fail
  refine wp_region_lit ?_
  refine wpList_yield rfl _ (exec_move _ rfl) ?_
  simp only [Act.put, Act.eval, Array.getD_eq_getD_getElem?, List.getElem?_toArray, List.getElem?_cons_succ, List.getElem?_cons_zero, Option.getD_some, List.setIfInBounds_toArray, List.set_cons_zero, List.set_cons_succ]
  refine wpList_yield rfl _ (exec_load_agg at25w (.tmp 2) rfl (ga + 1) 25 (bvs dB) rfl rb8 (by rw [bvs_length]; exact LB.out)) ?_
  simp only [Act.put, List.setIfInBounds_toArray, List.set_cons_zero, List.set_cons_succ]
  refine wpList_plain rfl fun K hK => ?_; go_simp
  with_reducible refine (A2 S2 g w8 hl8).out.mono ?_
  rintro e w9 ⟨S3, rfl, hl9, hS9, hf9⟩
  refine hK _ _ ?_; clear hK
  (try simp only [Act.put, List.setIfInBounds_toArray, List.set_cons_zero, List.set_cons_succ])
  refine wpList_yield rfl _ (exec_move _ rfl) ?_
  simp only [Act.put, Act.eval, Array.getD_eq_getD_getElem?, List.getElem?_toArray, List.getElem?_cons_succ, List.getElem?_cons_zero, Option.getD_some, List.setIfInBounds_toArray, List.set_cons_zero, List.set_cons_succ]
  refine wpList_yield rfl ?vp7_4 ?yp7_4 ?_
  case yp7_4 => go_simp; try with_reducible rfl
  simp only [Act.put, List.setIfInBounds_toArray, List.set_cons_zero, List.set_cons_succ]
  refine wpList_yield rfl ?vp8_5 ?yp8_5 ?_
  case yp8_5 => go_simp; try with_reducible rfl
  simp only [Act.put, List.setIfInBounds_toArray, List.set_cons_zero, List.set_cons_succ]
  refine wpList_yield rfl _ (exec_assign _ rfl) ?_
  simp only [Act.put, Act.eval, Array.getD_eq_getD_getElem?, List.getElem?_toArray, List.getElem?_cons_succ, List.getElem?_cons_zero, Option.getD_some, List.setIfInBounds_toArray, List.set_cons_zero, List.set_cons_succ]
  refine wpList_yield rfl _ (exec_assign _ rfl) ?_
  simp only [Act.put, Act.eval, Array.getD_eq_getD_getElem?, List.getElem?_toArray, List.getElem?_cons_succ, List.getElem?_cons_zero, Option.getD_some, List.setIfInBounds_toArray, List.set_cons_zero, List.set_cons_succ]
  refine wpList_nil ?_
  have ra9 := ra8.fr hf9 hna2
  have rb9 := rb8.fr hf9 hnb2
  have hB9 := below_fr hB8 hf9 hB8.size hnw2
  have hl9 : Lg S3 w9 g [dA, dB] := hl9
  clear ra8 rb8 hB8 hS9 hf9 hna2 hnb2 hnw2 hl8
  go_upto_region 7 with fail
  refine rg_begin (Below w9.heap.size w9) [] [16, 17, 19, 21] [0, 1, 2, 3, 4, 5, 6, 7, 8, 9, 10, 11, 12, 13, 14, 15, 18, 20, 16, 17, 19, 21, 22, 23, 24] 0 mixed (by kernel_rfl) (fun _ _ _ _ e hh => ⟨e.symm.trans hh.1, hh.2⟩) ?_
  simp only [pick, List.map_cons, List.map_nil, List.getD_cons_zero, List.getD_cons_succ]
  have hS : (Below w9.heap.size w9) _ := (Below.refl _ _).drew
  refine rg_take (v := ?v9_0) rfl rfl hS ?y9_0 ?_
  case y9_0 => intro W hW; (try subst hW); go_simp; try with_reducible rfl
  simp only [Act.put, List.setIfInBounds_toArray, List.set_cons_zero, List.set_cons_succ]
  refine rg_take (v := ?v9_1) rfl rfl hS ?y9_1 ?_
  case y9_1 => intro W hW; (try subst hW); go_simp; try with_reducible rfl
  simp only [Act.put, List.setIfInBounds_toArray, List.set_cons_zero, List.set_cons_succ]
  refine rg_take (v := ?v9_2) rfl rfl hS ?y9_2 ?_
  case y9_2 => intro W hW; (try subst hW); go_simp; try with_reducible rfl
  simp only [Act.put, List.setIfInBounds_toArray, List.set_cons_zero, List.set_cons_succ]
  refine rg_take (v := ?v9_3) rfl rfl hS ?y9_3 ?_
  case y9_3 => intro W hW; (try subst hW); go_simp; try with_reducible rfl
  simp only [Act.put, List.setIfInBounds_toArray, List.set_cons_zero, List.set_cons_succ]
  refine rg_take (v := ?v9_4) rfl rfl hS ?y9_4 ?_
  case y9_4 => intro W hW; (try subst hW); go_simp; try with_reducible rfl
  simp only [Act.put, List.setIfInBounds_toArray, List.set_cons_zero, List.set_cons_succ]
  refine rg_take (v := ?v9_5) rfl rfl hS ?y9_5 ?_
  case y9_5 => intro W hW; (try subst hW); go_simp; try with_reducible rfl
  simp only [Act.put, List.setIfInBounds_toArray, List.set_cons_zero, List.set_cons_succ]
  refine rg_take (v := ?v9_6) rfl rfl hS ?y9_6 ?_
  case y9_6 => intro W hW; (try subst hW); go_simp; try with_reducible rfl
  simp only [Act.put, List.setIfInBounds_toArray, List.set_cons_zero, List.set_cons_succ]
  refine rg_take (v := ?v9_7) rfl rfl hS ?y9_7 ?_
  case y9_7 => intro W hW; (try subst hW); go_simp; try with_reducible rfl
  simp only [Act.put, List.setIfInBounds_toArray, List.set_cons_zero, List.set_cons_succ]
  refine rg_take (v := ?v9_8) rfl rfl hS ?y9_8 ?_
  case y9_8 => intro W hW; (try subst hW); go_simp; try with_reducible rfl
  simp only [Act.put, List.setIfInBounds_toArray, List.set_cons_zero, List.set_cons_succ]
  refine rg_take (v := ?v9_9) rfl rfl hS ?y9_9 ?_
  case y9_9 => intro W hW; (try subst hW); go_simp; try with_reducible rfl
  simp only [Act.put, List.setIfInBounds_toArray, List.set_cons_zero, List.set_cons_succ]
  refine rg_take (v := ?v9_10) rfl rfl hS ?y9_10 ?_
  case y9_10 => intro W hW; (try subst hW); go_simp; try with_reducible rfl
  simp only [Act.put, List.setIfInBounds_toArray, List.set_cons_zero, List.set_cons_succ]
  refine rg_take (v := ?v9_11) rfl rfl hS ?y9_11 ?_
  case y9_11 => intro W hW; (try subst hW); go_simp; try with_reducible rfl
  simp only [Act.put, List.setIfInBounds_toArray, List.set_cons_zero, List.set_cons_succ]
  refine rg_take (v := ?v9_12) rfl rfl hS ?y9_12 ?_
  case y9_12 => intro W hW; (try subst hW); go_simp; try with_reducible rfl
  simp only [Act.put, List.setIfInBounds_toArray, List.set_cons_zero, List.set_cons_succ]
  refine rg_take (v := ?v9_13) rfl rfl hS ?y9_13 ?_
  case y9_13 => intro W hW; (try subst hW); go_simp; try with_reducible rfl
  simp only [Act.put, List.setIfInBounds_toArray, List.set_cons_zero, List.set_cons_succ]
  refine rg_take (v := ?v9_14) rfl rfl hS ?y9_14 ?_
  case y9_14 => intro W hW; (try subst hW); go_simp; try with_reducible rfl
  simp only [Act.put, List.setIfInBounds_toArray, List.set_cons_zero, List.set_cons_succ]
  refine rg_take (v := ?v9_15) rfl rfl hS ?y9_15 ?_
  case y9_15 => intro W hW; (try subst hW); go_simp; try with_reducible rfl
  simp only [Act.put, List.setIfInBounds_toArray, List.set_cons_zero, List.set_cons_succ]
  refine rg_take rfl rfl hS (fun W hW => exec_load_agg at25w (.tmp 1) rfl ga 25 (bvs dA) rfl (ra9.below hW ra9.lt) (by rw [bvs_length]; exact LA.out)) ?_
  simp only [Act.put, List.setIfInBounds_toArray, List.set_cons_zero, List.set_cons_succ]
  refine rg_take rfl rfl hS (fun W hW => exec_load_agg at25w (.tmp 2) rfl (ga + 1) 25 (bvs dB) rfl (rb9.below hW rb9.lt) (by rw [bvs_length]; exact LB.out)) ?_
  simp only [Act.put, List.setIfInBounds_toArray, List.set_cons_zero, List.set_cons_succ]
  refine rg_one rfl rfl ?_; intro K hK; go_simp
  with_reducible refine (H2 S3 g _ (hl9.below hS)).out.mono ?_
  rintro e w10 ⟨rfl, hw10⟩
  have hS1 : Below w9.heap.size w9 w10 := Below.trans hS (hw10.mono (Below.size hS))
  refine hK _ _ (fun _ => hS1) ?_; clear hK
  refine rg_one rfl rfl ?_; intro K hK; go_simp
  with_reducible refine (FI _).out.mono ?_
  rintro e w11 ⟨rfl, hw11⟩
  have hS2 : Below w9.heap.size w9 w11 := Below.trans hS1 (hw11.mono (Below.size hS1))
  refine hK _ _ (fun _ => hS2) ?_; clear hK
  refine rg_one rfl rfl ?_; intro K hK; go_simp
  with_reducible refine (N1 _).out.mono ?_
  rintro e w12 ⟨rfl, hw12⟩
  have hS3 : Below w9.heap.size w9 w12 := Below.trans hS2 (hw12.mono (Below.size hS2))
  refine hK _ _ (fun _ => hS3) ?_; clear hK
  refine rg_one rfl rfl ?_; intro K hK; go_simp
  with_reducible refine (N2 _).out.mono ?_
  rintro e w13 ⟨rfl, hw13⟩
  have hS4 : Below w9.heap.size w9 w13 := Below.trans hS3 (hw13.mono (Below.size hS3))
  refine hK _ _ (fun _ => hS4) ?_; clear hK
  refine rg_take rfl rfl hS4 (fun W hW => exec_eql_same ab25 _ _ rfl h2 rfl rfl HN2.out) ?_
  simp only [Act.put, List.setIfInBounds_toArray, List.set_cons_zero, List.set_cons_succ]
  refine rg_take (v := ?v9_23) rfl rfl hS4 ?y9_23 ?_
  case y9_23 => intro W hW; (try subst hW); go_simp; try with_reducible rfl
  simp only [Act.put, List.setIfInBounds_toArray, List.set_cons_zero, List.set_cons_succ]
  refine rg_take (v := ?v9_24) rfl rfl hS4 ?y9_24 ?_
  case y9_24 => intro W hW; (try subst hW); go_simp; try with_reducible rfl
  simp only [Act.put, List.setIfInBounds_toArray, List.set_cons_zero, List.set_cons_succ]
  refine rg_done (by kernel_rfl) ?_
  go_wp2_with fail
  go_ret
  exact ⟨rfl, bthen hB9 hS4 hB9.size⟩
end Go.Proofs.Ytehbahobkgoapaa
namespace Go.Proofs.Ytehbahobkgoapaa
open Go Go.RowKit
set_option linter.unusedSimpArgs false
set_option linter.unusedVariables false
theorem sha_txt (a : List (List UInt8)) : shaL (txtH a) = foldH firstH a := by
  by_cases h : a.length = 0
  · rw [txtH_nil a h, List.eq_nil_of_length_eq_zero h]; rfl
  · rw [txtH_cons a _ rfl (by omega)]
    show nextH (foldH firstH (a.take (a.length - 1))) (a.getD (a.length - 1) []) = _
    have e := take_last a (by omega)
    have e2 : foldH firstH a = foldH firstH (a.take (a.length - 1) ++ [a.getD (a.length - 1) []]) := by rw [e]
    rw [e2]
    unfold foldH
    rw [List.foldl_append]
    rfl
theorem txtN_le (n : Nat) : txtN n ≤ 65 := by unfold txtN; split <;> omega
theorem clashP_apart : ∀ (n : Nat) (a b : List (List UInt8)), a.length = n → (∀ l ∈ a, l.length = 32) → (∀ l ∈ b, l.length = 32) → a ≠ b → foldH firstH a = foldH firstH b →
    (clashP n a b).1 ≠ (clashP n a b).2 ∧ shaL (clashP n a b).1 = shaL (clashP n a b).2 ∧ (clashP n a b).1.length ≤ 65 ∧ (clashP n a b).2.length ≤ 65 := by
  intro n
  induction n with
  | zero =>
    intro a b hn ha hb hab hf
    have hne : txtH a ≠ txtH b := fun h => by have := (txt_eq a b ha hb hab h).1; omega
    rw [clash_done a b 0 hne]
    refine ⟨hne, by simp only [sha_txt]; exact hf, ?_, ?_⟩
    · show (txtH a).length ≤ 65; rw [txtH_length a _ rfl ha]; exact txtN_le _
    · show (txtH b).length ≤ 65; rw [txtH_length b _ rfl hb]; exact txtN_le _
  | succ n ih =>
    intro a b hn ha hb hab hf
    by_cases h : txtH a = txtH b
    · obtain ⟨h1, h2, h3, h4⟩ := txt_eq a b ha hb hab h
      have hl : (a.take (a.length - 1)).length = n := by rw [List.length_take]; omega
      rw [clash_step a b (n + 1) hn (by omega) h, hl]
      exact ih _ _ hl (fun l hl => ha l (List.mem_of_mem_take hl)) (fun l hl => hb l (List.mem_of_mem_take hl)) h3 h4
    · rw [clash_done a b (n + 1) h]
      refine ⟨h, by simp only [sha_txt]; exact hf, ?_, ?_⟩
      · show (txtH a).length ≤ 65; rw [txtH_length a _ rfl ha]; exact txtN_le _
      · show (txtH b).length ≤ 65; rw [txtH_length b _ rfl hb]; exact txtN_le _
/-- What is handed out is a clash just where one is said. -/
theorem clash_says (a b : List (List UInt8)) (ha : ∀ l ∈ a, l.length = 32) (hb : ∀ l ∈ b, l.length = 32) : clashB (clashR a b).1 (clashR a b).2 = clashes a b ∧ (clashR a b).1.length ≤ 65 ∧ (clashR a b).2.length ≤ 65 ∧ (clashes a b = false → (clashR a b).1.length = 0 ∧ (clashR a b).2.length = 0) := by
  cases h : clashes a b with
  | false =>
    have e : clashR a b = ([], []) := by unfold clashR; rw [h]; rfl
    rw [e]
    exact ⟨rfl, by simp, by simp, fun _ => ⟨rfl, rfl⟩⟩
  | true =>
    have e : clashR a b = clashP a.length a b := by unfold clashR; rw [h]; rfl
    rw [e]
    have hq : a ≠ b ∧ foldH firstH a = foldH firstH b := by simpa [clashes] using h
    obtain ⟨h1, h2, h3, h4⟩ := clashP_apart a.length a b rfl ha hb hq.1 hq.2
    refine ⟨?_, h3, h4, fun h => by cases h⟩
    unfold clashB
    rw [beq_eq_false_iff_ne.2 h1, h2]
    simp
set_option maxRecDepth 100000 in
set_option maxHeartbeats 8000000 in
theorem chain_says (A : Option Addr) (n c : Nat) (a : List (List UInt8)) (B : Option Addr) (m d : Nat) (b : List (List UInt8)) (w : World) (h1 : Hl w A n c a) (h2 : Hl w B m d b) :
    Calls Try.prog 21 #[.slice A n c, .slice B m d] w fun e w' => e = .returned (.bool true) ∧ Below w.heap.size w w' := by
  have hnm : n ≤ maxLen := Nat.le_trans h1.cap h1.max
  have hmm : m ≤ maxLen := Nat.le_trans h2.cap h2.max
  unfold maxLen at hnm hmm
  have AW := fun u => Lib.hid (awake_any u)
  by_cases hn : 40 < n
  · have hz : (40 : Int) < (n : Int) := by omega
    go_enter Try.func21, Try.ntmps21
    go_wp2_with (first
      | (go_at_call 113; with_reducible refine (AW _).out.mono ?_; rintro e w1 ⟨rfl, hw1⟩))
    go_ret
    exact ⟨rfl, hw1⟩
  · have hz : ¬ (40 : Int) < (n : Int) := by omega
    by_cases hm : 40 < m
    · have hz2 : (40 : Int) < (m : Int) := by omega
      go_enter Try.func21, Try.ntmps21
      go_wp2_with (first
        | (go_at_call 113; with_reducible refine (AW _).out.mono ?_; rintro e w1 ⟨rfl, hw1⟩))
      go_ret
      exact ⟨rfl, hw1⟩
    · have hz2 : ¬ (40 : Int) < (m : Int) := by omega
      obtain ⟨s1, s2, s3, s4⟩ := clash_says a b h1.each h2.each
      have FI := fun u => Lib.hid (first_is u)
      have HFI := Lib.hid firstH_length
      have FA := fun (u : World) (x : Hl u A n c a) => Lib.hid (fold_any firstH A n c a u HFI.out x)
      have FB := fun (u : World) (x : Hl u B m d b) => Lib.hid (fold_any firstH B m d b u HFI.out x)
      have HA := Lib.hid (foldH_len a)
      have HB := Lib.hid (foldH_len b)
      have X1 := fun (u : World) (x : Hl u A n c a) (y : Hl u B m d b) => Lib.hid (clash102 A n c a B m d b u x y)
      have CL := fun (B1 : Option Addr) (k1 d1 : Nat) (B2 : Option Addr) (k2 d2 : Nat) (u : World) (x : Tx u B1 k1 d1 (clashR a b).1) (y : Tx u B2 k2 d2 (clashR a b).2) => Lib.hid (clash_any B1 k1 d1 _ B2 k2 d2 _ u x y (by rw [← x.len]; omega) (by rw [← y.len]; omega))
      rw [s1] at CL
      obtain ⟨E, hE⟩ : ∃ E, (a == b) = E := ⟨_, rfl⟩
      obtain ⟨O, hO⟩ : ∃ O, (foldH firstH a == foldH firstH b) = O := ⟨_, rfl⟩
      have SM := fun (u : World) (x : Hl u A n c a) (y : Hl u B m d b) => Lib.hid (sameL111 A n c a B m d b u x y E hE)
      obtain ⟨KK, hKd⟩ : ∃ KK, (!E && O) = KK := ⟨_, rfl⟩
      have hck : clashes a b = KK := by unfold clashes; rw [hE, hO, hKd]
      have HKd := Lib.hid hKd
      rw [hck] at s4 CL
      clear hKd
      have X1 : ∀ (u : World) (x : Hl u A n c a) (y : Hl u B m d b), Hid (Calls Try.prog 102 #[.slice A n c, .slice B m d] u fun e w' => ∃ A1 n1 c1 A2 n2 c2, e = .returned (.tuple #[.agg #[.slice A1 n1 c1, .slice A2 n2 c2], .bool KK]) ∧ Tx w' A1 n1 c1 (clashR a b).1 ∧ Tx w' A2 n2 c2 (clashR a b).2 ∧ Below u.heap.size u w') := by
        intro u x y
        rw [← hck]
        exact X1 u x y
      have HO := Lib.hid hO
      have S4 := Lib.hid s4
      clear s1 s2 s3 s4 hE hO hck
      generalize foldH firstH a = fa at *
      generalize foldH firstH b = fb at *
      generalize firstH = FH at *
      generalize clashR a b = cr at *
      unfold arr8 at *
      have z124 : ∀ u : World, Hid (Blk (u.alloc (.cells #[.slice none 0 0, .slice none 0 0] 124)) u.heap.size 124 [.slice none 0 0, .slice none 0 0]) := fun u => Lib.hid (Blk.new u 124 [.slice none 0 0, .slice none 0 0])
      go_enter Try.func21, Try.ntmps21
      go_upto_region 4 with (first
        | (go_at_call 113; with_reducible refine (AW _).out.mono ?_; rintro e w1 ⟨rfl, hw1⟩))
      have x1 := h1.below hw1
      have y1 := h2.below hw1
      clear h1 h2 AW
      refine wp_region_lit ?_
      refine wpList_plain rfl fun K hK => ?_; go_simp
      with_reducible refine (FI _).out.mono ?_
      rintro e w2 ⟨rfl, hw2⟩
      have x2 := x1.below hw2
      have y2 := y1.below hw2
      have hB2 := bthen hw1 hw2 hw1.size
      clear x1 y1 hw1 hw2
      refine hK _ _ ?_; clear hK
      (try simp only [Act.put, List.setIfInBounds_toArray, List.set_cons_zero, List.set_cons_succ])
      refine wpList_yield rfl _ (exec_move _ rfl) ?_
      simp only [Act.put, Act.eval, Array.getD_eq_getD_getElem?, List.getElem?_toArray, List.getElem?_cons_succ, List.getElem?_cons_zero, Option.getD_some, List.setIfInBounds_toArray, List.set_cons_zero, List.set_cons_succ]
      refine wpList_plain rfl fun K hK => ?_; go_simp
      with_reducible refine (FA _ x2).out.mono ?_
      rintro e w3 ⟨rfl, hw3⟩
      have x3 := x2.below hw3
      have y3 := y2.below hw3
      have hB3 := bthen hB2 hw3 hB2.size
      clear x2 y2 hB2 hw3
      refine hK _ _ ?_; clear hK
      (try simp only [Act.put, List.setIfInBounds_toArray, List.set_cons_zero, List.set_cons_succ])
      refine wpList_plain rfl fun K hK => ?_; go_simp
      with_reducible refine (FI _).out.mono ?_
      rintro e w4 ⟨rfl, hw4⟩
      have x4 := x3.below hw4
      have y4 := y3.below hw4
      have hB4 := bthen hB3 hw4 hB3.size
      clear x3 y3 hB3 hw4
      refine hK _ _ ?_; clear hK
      (try simp only [Act.put, List.setIfInBounds_toArray, List.set_cons_zero, List.set_cons_succ])
      refine wpList_yield rfl _ (exec_move _ rfl) ?_
      simp only [Act.put, Act.eval, Array.getD_eq_getD_getElem?, List.getElem?_toArray, List.getElem?_cons_succ, List.getElem?_cons_zero, Option.getD_some, List.setIfInBounds_toArray, List.set_cons_zero, List.set_cons_succ]
      refine wpList_plain rfl fun K hK => ?_; go_simp
      with_reducible refine (FB _ y4).out.mono ?_
      rintro e w5 ⟨rfl, hw5⟩
      have x5 := x4.below hw5
      have y5 := y4.below hw5
      have hB5 := bthen hB4 hw5 hB4.size
      clear x4 y4 hB4 hw5
      refine hK _ _ ?_; clear hK
      (try simp only [Act.put, List.setIfInBounds_toArray, List.set_cons_zero, List.set_cons_succ])
      refine wpList_yield rfl _ (exec_eql_to ab25 _ _ rfl fa fb rfl rfl HA.out HB.out HO.out) ?_
      simp only [Act.put, List.setIfInBounds_toArray, List.set_cons_zero, List.set_cons_succ]
      refine wpList_yield rfl _ (exec_assign _ rfl) ?_
      simp only [Act.put, Act.eval, Array.getD_eq_getD_getElem?, List.getElem?_toArray, List.getElem?_cons_succ, List.getElem?_cons_zero, Option.getD_some, List.setIfInBounds_toArray, List.set_cons_zero, List.set_cons_succ]
      refine wpList_nil ?_
      go_upto_region 5 with fail
      refine wp_region_lit ?_
      refine wpList_yield rfl _ (exec_move _ rfl) ?_
      simp only [Act.put, Act.eval, Array.getD_eq_getD_getElem?, List.getElem?_toArray, List.getElem?_cons_succ, List.getElem?_cons_zero, Option.getD_some, List.setIfInBounds_toArray, List.set_cons_zero, List.set_cons_succ]
      refine wpList_yield rfl _ (exec_move _ rfl) ?_
      simp only [Act.put, Act.eval, Array.getD_eq_getD_getElem?, List.getElem?_toArray, List.getElem?_cons_succ, List.getElem?_cons_zero, Option.getD_some, List.setIfInBounds_toArray, List.set_cons_zero, List.set_cons_succ]
      refine wpList_plain rfl fun K hK => ?_; go_simp
      with_reducible refine (X1 w5 x5 y5).out.mono ?_
      rintro e w6 ⟨B1, k1, d1, B2, k2, d2, rfl, t1, t2, hw6⟩
      refine hK _ _ ?_; clear hK
      (try simp only [Act.put, List.setIfInBounds_toArray, List.set_cons_zero, List.set_cons_succ])
      refine wpList_yield rfl _ (exec_move _ rfl) ?_
      simp only [Act.put, Act.eval, Array.getD_eq_getD_getElem?, List.getElem?_toArray, List.getElem?_cons_succ, List.getElem?_cons_zero, Option.getD_some, List.setIfInBounds_toArray, List.set_cons_zero, List.set_cons_succ]
      refine wpList_yield rfl ?vp1_4 ?yp1_4 ?_
      case yp1_4 => go_simp; try with_reducible rfl
      simp only [Act.put, List.setIfInBounds_toArray, List.set_cons_zero, List.set_cons_succ]
      refine wpList_yield rfl ?vp2_5 ?yp2_5 ?_
      case yp2_5 => go_simp; try with_reducible rfl
      simp only [Act.put, List.setIfInBounds_toArray, List.set_cons_zero, List.set_cons_succ]
      refine wpList_plain rfl fun K hK => ?_; go_simp
      refine hK _ _ ?_; clear hK
      (try simp only [Act.put, List.setIfInBounds_toArray, List.set_cons_zero, List.set_cons_succ])
      refine wpList_store_at at124.i rfl (.tmp 7) (.tmp 30) rfl w6.heap.size 0 124 [.slice none 0 0, .slice none 0 0] [.slice B1 k1 d1, .slice B2 k2 d2] rfl rfl (z124 w6).out rfl (Nat.le_refl 2) (by simp [Value.oneCell']) ?_
      intro w7 hb7 hg7 hs7
      (try simp only [Act.put, List.setIfInBounds_toArray, List.set_cons_zero, List.set_cons_succ])
      refine wpList_yield rfl _ (exec_assign _ rfl) ?_
      simp only [Act.put, Act.eval, Array.getD_eq_getD_getElem?, List.getElem?_toArray, List.getElem?_cons_succ, List.getElem?_cons_zero, Option.getD_some, List.setIfInBounds_toArray, List.set_cons_zero, List.set_cons_succ]
      refine wpList_nil ?_
      rw [splice_all _ _ (by rfl)] at hb7
      have hB67 : Below w6.heap.size w6 w7 := ((Below.refl w6.heap.size w6).alloc (Nat.le_refl _) _).grown hg7 (by simp) (by intro k hk; cases hk; exact Nat.le_refl _)
      have hB57 : Below w5.heap.size w5 w7 := hw6.trans (hB67.mono hw6.size)
      have hB7 := bthen hB5 hB57 hB5.size
      have t3 := t1.below hB67
      have t4 := t2.below hB67
      have x7 := x5.below hB57
      have y7 := y5.below hB57
      clear hB67 hB57 hw6 hg7 hs7 t1 t2 x5 y5 hB5
      generalize w6.heap.size = G at *
      cases hOv : O with
      | false =>
        cases hEv : E with
        | false =>
          obtain rfl : E = false := hEv
          obtain rfl : O = false := hOv
          obtain rfl : false = KK := HKd.out
          clear HKd
          obtain ⟨z1, z2⟩ := S4.out rfl
          obtain rfl : k1 = 0 := t3.len.symm.trans z1
          obtain rfl : k2 = 0 := t4.len.symm.trans z2
          clear S4
          go_upto_region 6 with fail
          refine wp_region_lit ?_
          refine wpList_yield rfl _ (exec_move _ rfl) ?_
          simp only [Act.put, Act.eval, Array.getD_eq_getD_getElem?, List.getElem?_toArray, List.getElem?_cons_succ, List.getElem?_cons_zero, Option.getD_some, List.setIfInBounds_toArray, List.set_cons_zero, List.set_cons_succ]
          refine wpList_yield rfl _ (exec_move _ rfl) ?_
          simp only [Act.put, Act.eval, Array.getD_eq_getD_getElem?, List.getElem?_toArray, List.getElem?_cons_succ, List.getElem?_cons_zero, Option.getD_some, List.setIfInBounds_toArray, List.set_cons_zero, List.set_cons_succ]
          refine wpList_yield rfl _ (exec_move _ rfl) ?_
          simp only [Act.put, Act.eval, Array.getD_eq_getD_getElem?, List.getElem?_toArray, List.getElem?_cons_succ, List.getElem?_cons_zero, Option.getD_some, List.setIfInBounds_toArray, List.set_cons_zero, List.set_cons_succ]
          refine no_implicit_lambda% (wpList_skip_w ?k3_3 ?_)
          case k3_3 => rfl
          simp only [Act.put, List.setIfInBounds_toArray, List.set_cons_zero, List.set_cons_succ]
          refine no_implicit_lambda% (wpList_skip_w ?k4_4 ?_)
          case k4_4 => rfl
          simp only [Act.put, List.setIfInBounds_toArray, List.set_cons_zero, List.set_cons_succ]
          refine no_implicit_lambda% (wpList_skip_w ?k5_5 ?_)
          case k5_5 => rfl
          simp only [Act.put, List.setIfInBounds_toArray, List.set_cons_zero, List.set_cons_succ]
          refine no_implicit_lambda% (wpList_skip_w ?k6_6 ?_)
          case k6_6 => rfl
          simp only [Act.put, List.setIfInBounds_toArray, List.set_cons_zero, List.set_cons_succ]
          refine wpList_yield rfl ?vp7_7 ?yp7_7 ?_
          case yp7_7 => go_simp; try with_reducible rfl
          simp only [Act.put, List.setIfInBounds_toArray, List.set_cons_zero, List.set_cons_succ]
          refine wpList_yield rfl ?vp8_8 ?yp8_8 ?_
          case yp8_8 => go_simp; try with_reducible rfl
          simp only [Act.put, List.setIfInBounds_toArray, List.set_cons_zero, List.set_cons_succ]
          refine wpList_yield rfl _ (exec_move _ rfl) ?_
          simp only [Act.put, Act.eval, Array.getD_eq_getD_getElem?, List.getElem?_toArray, List.getElem?_cons_succ, List.getElem?_cons_zero, Option.getD_some, List.setIfInBounds_toArray, List.set_cons_zero, List.set_cons_succ]
          refine wpList_yield_w rfl _ (exec_move _ rfl) ?_
          simp only [Act.put, Act.eval, Array.getD_eq_getD_getElem?, List.getElem?_toArray, List.getElem?_cons_succ, List.getElem?_cons_zero, Option.getD_some, List.setIfInBounds_toArray, List.set_cons_zero, List.set_cons_succ]
          refine wpList_yield_w rfl _ (exec_load_agg at124 (.tmp 7) rfl G 124 [.slice B1 0 d1, .slice B2 0 d2] rfl hb7 rfl) ?_
          simp only [Act.put, List.setIfInBounds_toArray, List.set_cons_zero, List.set_cons_succ]
          refine wpList_plain_w rfl fun K hK => ?_; go_simp
          with_reducible refine (CL _ _ _ _ _ _ w7 t3 t4).out.mono ?_
          rintro e w9 ⟨rfl, hw9⟩
          refine hK _ _ ?_; clear hK
          (try simp only [Act.put, List.setIfInBounds_toArray, List.set_cons_zero, List.set_cons_succ])
          refine wpList_yield_w rfl ?vp9_13 ?yp9_13 ?_
          case yp9_13 => go_simp; try with_reducible rfl
          simp only [Act.put, List.setIfInBounds_toArray, List.set_cons_zero, List.set_cons_succ]
          refine wpList_yield rfl ?vp10_14 ?yp10_14 ?_
          case yp10_14 => go_simp; try with_reducible rfl
          simp only [Act.put, List.setIfInBounds_toArray, List.set_cons_zero, List.set_cons_succ]
          refine wpList_nil ?_
          have hB9 := bthen hB7 hw9 hB7.size
          have hb9 := (hb7).below hw9 (hb7).lt
          have p9 := Lib.hid (pair_blk hb9)
          go_upto_region 8 with fail
          refine wp_region_lit ?_
          refine wpList_yield rfl _ (exec_move _ rfl) ?_
          simp only [Act.put, Act.eval, Array.getD_eq_getD_getElem?, List.getElem?_toArray, List.getElem?_cons_succ, List.getElem?_cons_zero, Option.getD_some, List.setIfInBounds_toArray, List.set_cons_zero, List.set_cons_succ]
          refine wpList_yield rfl _ (exec_move _ rfl) ?_
          simp only [Act.put, Act.eval, Array.getD_eq_getD_getElem?, List.getElem?_toArray, List.getElem?_cons_succ, List.getElem?_cons_zero, Option.getD_some, List.setIfInBounds_toArray, List.set_cons_zero, List.set_cons_succ]
          refine wpList_yield_w rfl _ (exec_move _ rfl) ?_
          simp only [Act.put, Act.eval, Array.getD_eq_getD_getElem?, List.getElem?_toArray, List.getElem?_cons_succ, List.getElem?_cons_zero, Option.getD_some, List.setIfInBounds_toArray, List.set_cons_zero, List.set_cons_succ]
          refine wpList_yield_w rfl _ (exec_move _ rfl) ?_
          simp only [Act.put, Act.eval, Array.getD_eq_getD_getElem?, List.getElem?_toArray, List.getElem?_cons_succ, List.getElem?_cons_zero, Option.getD_some, List.setIfInBounds_toArray, List.set_cons_zero, List.set_cons_succ]
          refine wpList_yield_w rfl _ (exec_g0 _ rfl G rfl) ?_
          simp only [Act.put, List.setIfInBounds_toArray, List.set_cons_zero, List.set_cons_succ]
          refine wpList_yield_w rfl _ (exec_load24 _ rfl _ _ rfl p9.out.1) ?_
          simp only [Act.put, List.setIfInBounds_toArray, List.set_cons_zero, List.set_cons_succ]
          refine wpList_yield_w rfl _ (exec_len24 _ rfl B1 0 d1 rfl) ?_
          simp only [Act.put, List.setIfInBounds_toArray, List.set_cons_zero, List.set_cons_succ]
          refine wpList_yield_w rfl _ (exec_g1 _ rfl G rfl) ?_
          simp only [Act.put, List.setIfInBounds_toArray, List.set_cons_zero, List.set_cons_succ]
          refine wpList_yield_w rfl _ (exec_load24 _ rfl _ _ rfl p9.out.2) ?_
          simp only [Act.put, List.setIfInBounds_toArray, List.set_cons_zero, List.set_cons_succ]
          refine wpList_yield_w rfl _ (exec_len24 _ rfl B2 0 d2 rfl) ?_
          simp only [Act.put, List.setIfInBounds_toArray, List.set_cons_zero, List.set_cons_succ]
          refine wpList_yield_w rfl ?vp11_10 ?yp11_10 ?_
          case yp11_10 => go_simp; try with_reducible rfl
          simp only [Act.put, List.setIfInBounds_toArray, List.set_cons_zero, List.set_cons_succ]
          refine wpList_yield_w rfl ?vp12_11 ?yp12_11 ?_
          case yp12_11 => go_simp; try with_reducible rfl
          simp only [Act.put, List.setIfInBounds_toArray, List.set_cons_zero, List.set_cons_succ]
          refine wpList_yield_w rfl ?vp13_12 ?yp13_12 ?_
          case yp13_12 => go_simp; try with_reducible rfl
          simp only [Act.put, List.setIfInBounds_toArray, List.set_cons_zero, List.set_cons_succ]
          refine wpList_yield rfl ?vp14_13 ?yp14_13 ?_
          case yp14_13 => go_simp; try with_reducible rfl
          simp only [Act.put, List.setIfInBounds_toArray, List.set_cons_zero, List.set_cons_succ]
          refine wpList_yield rfl _ (exec_assign _ rfl) ?_
          simp only [Act.put, Act.eval, Array.getD_eq_getD_getElem?, List.getElem?_toArray, List.getElem?_cons_succ, List.getElem?_cons_zero, Option.getD_some, List.setIfInBounds_toArray, List.set_cons_zero, List.set_cons_succ]
          refine wpList_nil ?_
          go_wp2_with fail
          go_ret
          exact ⟨rfl, hB9⟩
        | true =>
          obtain rfl : E = true := hEv
          obtain rfl : O = false := hOv
          obtain rfl : false = KK := HKd.out
          clear HKd
          obtain ⟨z1, z2⟩ := S4.out rfl
          obtain rfl : k1 = 0 := t3.len.symm.trans z1
          obtain rfl : k2 = 0 := t4.len.symm.trans z2
          clear S4
          go_upto_region 6 with fail
          refine wp_region_lit ?_
          refine wpList_yield rfl _ (exec_move _ rfl) ?_
          simp only [Act.put, Act.eval, Array.getD_eq_getD_getElem?, List.getElem?_toArray, List.getElem?_cons_succ, List.getElem?_cons_zero, Option.getD_some, List.setIfInBounds_toArray, List.set_cons_zero, List.set_cons_succ]
          refine wpList_yield rfl _ (exec_move _ rfl) ?_
          simp only [Act.put, Act.eval, Array.getD_eq_getD_getElem?, List.getElem?_toArray, List.getElem?_cons_succ, List.getElem?_cons_zero, Option.getD_some, List.setIfInBounds_toArray, List.set_cons_zero, List.set_cons_succ]
          refine wpList_yield rfl _ (exec_move _ rfl) ?_
          simp only [Act.put, Act.eval, Array.getD_eq_getD_getElem?, List.getElem?_toArray, List.getElem?_cons_succ, List.getElem?_cons_zero, Option.getD_some, List.setIfInBounds_toArray, List.set_cons_zero, List.set_cons_succ]
          refine no_implicit_lambda% (wpList_skip_w ?k15_3 ?_)
          case k15_3 => rfl
          simp only [Act.put, List.setIfInBounds_toArray, List.set_cons_zero, List.set_cons_succ]
          refine no_implicit_lambda% (wpList_skip_w ?k16_4 ?_)
          case k16_4 => rfl
          simp only [Act.put, List.setIfInBounds_toArray, List.set_cons_zero, List.set_cons_succ]
          refine no_implicit_lambda% (wpList_skip_w ?k17_5 ?_)
          case k17_5 => rfl
          simp only [Act.put, List.setIfInBounds_toArray, List.set_cons_zero, List.set_cons_succ]
          refine no_implicit_lambda% (wpList_skip_w ?k18_6 ?_)
          case k18_6 => rfl
          simp only [Act.put, List.setIfInBounds_toArray, List.set_cons_zero, List.set_cons_succ]
          refine wpList_yield rfl ?vp19_7 ?yp19_7 ?_
          case yp19_7 => go_simp; try with_reducible rfl
          simp only [Act.put, List.setIfInBounds_toArray, List.set_cons_zero, List.set_cons_succ]
          refine wpList_yield rfl ?vp20_8 ?yp20_8 ?_
          case yp20_8 => go_simp; try with_reducible rfl
          simp only [Act.put, List.setIfInBounds_toArray, List.set_cons_zero, List.set_cons_succ]
          refine wpList_yield rfl _ (exec_move _ rfl) ?_
          simp only [Act.put, Act.eval, Array.getD_eq_getD_getElem?, List.getElem?_toArray, List.getElem?_cons_succ, List.getElem?_cons_zero, Option.getD_some, List.setIfInBounds_toArray, List.set_cons_zero, List.set_cons_succ]
          refine wpList_yield_w rfl _ (exec_move _ rfl) ?_
          simp only [Act.put, Act.eval, Array.getD_eq_getD_getElem?, List.getElem?_toArray, List.getElem?_cons_succ, List.getElem?_cons_zero, Option.getD_some, List.setIfInBounds_toArray, List.set_cons_zero, List.set_cons_succ]
          refine wpList_yield_w rfl _ (exec_load_agg at124 (.tmp 7) rfl G 124 [.slice B1 0 d1, .slice B2 0 d2] rfl hb7 rfl) ?_
          simp only [Act.put, List.setIfInBounds_toArray, List.set_cons_zero, List.set_cons_succ]
          refine wpList_plain_w rfl fun K hK => ?_; go_simp
          with_reducible refine (CL _ _ _ _ _ _ w7 t3 t4).out.mono ?_
          rintro e w9 ⟨rfl, hw9⟩
          refine hK _ _ ?_; clear hK
          (try simp only [Act.put, List.setIfInBounds_toArray, List.set_cons_zero, List.set_cons_succ])
          refine wpList_yield_w rfl ?vp21_13 ?yp21_13 ?_
          case yp21_13 => go_simp; try with_reducible rfl
          simp only [Act.put, List.setIfInBounds_toArray, List.set_cons_zero, List.set_cons_succ]
          refine wpList_yield rfl ?vp22_14 ?yp22_14 ?_
          case yp22_14 => go_simp; try with_reducible rfl
          simp only [Act.put, List.setIfInBounds_toArray, List.set_cons_zero, List.set_cons_succ]
          refine wpList_nil ?_
          have hB9 := bthen hB7 hw9 hB7.size
          have hb9 := (hb7).below hw9 (hb7).lt
          have p9 := Lib.hid (pair_blk hb9)
          go_upto_region 8 with fail
          refine wp_region_lit ?_
          refine wpList_yield rfl _ (exec_move _ rfl) ?_
          simp only [Act.put, Act.eval, Array.getD_eq_getD_getElem?, List.getElem?_toArray, List.getElem?_cons_succ, List.getElem?_cons_zero, Option.getD_some, List.setIfInBounds_toArray, List.set_cons_zero, List.set_cons_succ]
          refine wpList_yield rfl _ (exec_move _ rfl) ?_
          simp only [Act.put, Act.eval, Array.getD_eq_getD_getElem?, List.getElem?_toArray, List.getElem?_cons_succ, List.getElem?_cons_zero, Option.getD_some, List.setIfInBounds_toArray, List.set_cons_zero, List.set_cons_succ]
          refine wpList_yield_w rfl _ (exec_move _ rfl) ?_
          simp only [Act.put, Act.eval, Array.getD_eq_getD_getElem?, List.getElem?_toArray, List.getElem?_cons_succ, List.getElem?_cons_zero, Option.getD_some, List.setIfInBounds_toArray, List.set_cons_zero, List.set_cons_succ]
          refine wpList_yield_w rfl _ (exec_move _ rfl) ?_
          simp only [Act.put, Act.eval, Array.getD_eq_getD_getElem?, List.getElem?_toArray, List.getElem?_cons_succ, List.getElem?_cons_zero, Option.getD_some, List.setIfInBounds_toArray, List.set_cons_zero, List.set_cons_succ]
          refine wpList_yield_w rfl _ (exec_g0 _ rfl G rfl) ?_
          simp only [Act.put, List.setIfInBounds_toArray, List.set_cons_zero, List.set_cons_succ]
          refine wpList_yield_w rfl _ (exec_load24 _ rfl _ _ rfl p9.out.1) ?_
          simp only [Act.put, List.setIfInBounds_toArray, List.set_cons_zero, List.set_cons_succ]
          refine wpList_yield_w rfl _ (exec_len24 _ rfl B1 0 d1 rfl) ?_
          simp only [Act.put, List.setIfInBounds_toArray, List.set_cons_zero, List.set_cons_succ]
          refine wpList_yield_w rfl _ (exec_g1 _ rfl G rfl) ?_
          simp only [Act.put, List.setIfInBounds_toArray, List.set_cons_zero, List.set_cons_succ]
          refine wpList_yield_w rfl _ (exec_load24 _ rfl _ _ rfl p9.out.2) ?_
          simp only [Act.put, List.setIfInBounds_toArray, List.set_cons_zero, List.set_cons_succ]
          refine wpList_yield_w rfl _ (exec_len24 _ rfl B2 0 d2 rfl) ?_
          simp only [Act.put, List.setIfInBounds_toArray, List.set_cons_zero, List.set_cons_succ]
          refine wpList_yield_w rfl ?vp23_10 ?yp23_10 ?_
          case yp23_10 => go_simp; try with_reducible rfl
          simp only [Act.put, List.setIfInBounds_toArray, List.set_cons_zero, List.set_cons_succ]
          refine wpList_yield_w rfl ?vp24_11 ?yp24_11 ?_
          case yp24_11 => go_simp; try with_reducible rfl
          simp only [Act.put, List.setIfInBounds_toArray, List.set_cons_zero, List.set_cons_succ]
          refine wpList_yield_w rfl ?vp25_12 ?yp25_12 ?_
          case yp25_12 => go_simp; try with_reducible rfl
          simp only [Act.put, List.setIfInBounds_toArray, List.set_cons_zero, List.set_cons_succ]
          refine wpList_yield rfl ?vp26_13 ?yp26_13 ?_
          case yp26_13 => go_simp; try with_reducible rfl
          simp only [Act.put, List.setIfInBounds_toArray, List.set_cons_zero, List.set_cons_succ]
          refine wpList_yield rfl _ (exec_assign _ rfl) ?_
          simp only [Act.put, Act.eval, Array.getD_eq_getD_getElem?, List.getElem?_toArray, List.getElem?_cons_succ, List.getElem?_cons_zero, Option.getD_some, List.setIfInBounds_toArray, List.set_cons_zero, List.set_cons_succ]
          refine wpList_nil ?_
          go_wp2_with fail
          go_ret
          exact ⟨rfl, hB9⟩
      | true =>
        cases hEv : E with
        | false =>
          obtain rfl : E = false := hEv
          obtain rfl : O = true := hOv
          obtain rfl : true = KK := HKd.out
          clear HKd
          clear S4
          go_upto_region 6 with fail
          refine wp_region_lit ?_
          refine wpList_yield rfl _ (exec_move _ rfl) ?_
          simp only [Act.put, Act.eval, Array.getD_eq_getD_getElem?, List.getElem?_toArray, List.getElem?_cons_succ, List.getElem?_cons_zero, Option.getD_some, List.setIfInBounds_toArray, List.set_cons_zero, List.set_cons_succ]
          refine wpList_yield rfl _ (exec_move _ rfl) ?_
          simp only [Act.put, Act.eval, Array.getD_eq_getD_getElem?, List.getElem?_toArray, List.getElem?_cons_succ, List.getElem?_cons_zero, Option.getD_some, List.setIfInBounds_toArray, List.set_cons_zero, List.set_cons_succ]
          refine wpList_yield rfl _ (exec_move _ rfl) ?_
          simp only [Act.put, Act.eval, Array.getD_eq_getD_getElem?, List.getElem?_toArray, List.getElem?_cons_succ, List.getElem?_cons_zero, Option.getD_some, List.setIfInBounds_toArray, List.set_cons_zero, List.set_cons_succ]
          refine wpList_yield_w rfl _ (exec_move _ rfl) ?_
          simp only [Act.put, Act.eval, Array.getD_eq_getD_getElem?, List.getElem?_toArray, List.getElem?_cons_succ, List.getElem?_cons_zero, Option.getD_some, List.setIfInBounds_toArray, List.set_cons_zero, List.set_cons_succ]
          refine wpList_yield_w rfl _ (exec_move _ rfl) ?_
          simp only [Act.put, Act.eval, Array.getD_eq_getD_getElem?, List.getElem?_toArray, List.getElem?_cons_succ, List.getElem?_cons_zero, Option.getD_some, List.setIfInBounds_toArray, List.set_cons_zero, List.set_cons_succ]
          refine wpList_plain_w rfl fun K hK => ?_; go_simp
          with_reducible refine (SM w7 x7 y7).out.mono ?_
          rintro e w8 ⟨rfl, hw8⟩
          refine hK _ _ ?_; clear hK
          (try simp only [Act.put, List.setIfInBounds_toArray, List.set_cons_zero, List.set_cons_succ])
          refine wpList_yield_w rfl ?vp27_6 ?yp27_6 ?_
          case yp27_6 => go_simp; try with_reducible rfl
          simp only [Act.put, List.setIfInBounds_toArray, List.set_cons_zero, List.set_cons_succ]
          refine wpList_yield rfl ?vp28_7 ?yp28_7 ?_
          case yp28_7 => go_simp; try with_reducible rfl
          simp only [Act.put, List.setIfInBounds_toArray, List.set_cons_zero, List.set_cons_succ]
          refine wpList_yield rfl ?vp29_8 ?yp29_8 ?_
          case yp29_8 => go_simp; try with_reducible rfl
          simp only [Act.put, List.setIfInBounds_toArray, List.set_cons_zero, List.set_cons_succ]
          refine wpList_yield rfl _ (exec_move _ rfl) ?_
          simp only [Act.put, Act.eval, Array.getD_eq_getD_getElem?, List.getElem?_toArray, List.getElem?_cons_succ, List.getElem?_cons_zero, Option.getD_some, List.setIfInBounds_toArray, List.set_cons_zero, List.set_cons_succ]
          refine wpList_yield_w rfl _ (exec_move _ rfl) ?_
          simp only [Act.put, Act.eval, Array.getD_eq_getD_getElem?, List.getElem?_toArray, List.getElem?_cons_succ, List.getElem?_cons_zero, Option.getD_some, List.setIfInBounds_toArray, List.set_cons_zero, List.set_cons_succ]
          refine wpList_yield_w rfl _ (exec_load_agg at124 (.tmp 7) rfl G 124 [.slice B1 k1 d1, .slice B2 k2 d2] rfl (hb7.below hw8 hb7.lt) rfl) ?_
          simp only [Act.put, List.setIfInBounds_toArray, List.set_cons_zero, List.set_cons_succ]
          refine wpList_plain_w rfl fun K hK => ?_; go_simp
          with_reducible refine (CL _ _ _ _ _ _ w8 (t3.below hw8) (t4.below hw8)).out.mono ?_
          rintro e w9 ⟨rfl, hw9⟩
          refine hK _ _ ?_; clear hK
          (try simp only [Act.put, List.setIfInBounds_toArray, List.set_cons_zero, List.set_cons_succ])
          refine wpList_yield_w rfl ?vp30_13 ?yp30_13 ?_
          case yp30_13 => go_simp; try with_reducible rfl
          simp only [Act.put, List.setIfInBounds_toArray, List.set_cons_zero, List.set_cons_succ]
          refine wpList_yield rfl ?vp31_14 ?yp31_14 ?_
          case yp31_14 => go_simp; try with_reducible rfl
          simp only [Act.put, List.setIfInBounds_toArray, List.set_cons_zero, List.set_cons_succ]
          refine wpList_nil ?_
          have hB9 := bthen (bthen hB7 hw8 hB7.size) hw9 (bthen hB7 hw8 hB7.size).size
          clear SM CL FI FA FB HO HA HB t3 t4 x7 y7 z124 X1 HFI hB7 hb7 hw8 hw9
          go_upto_region 8 with fail
          refine wp_region_lit ?_
          refine wpList_yield rfl _ (exec_move _ rfl) ?_
          simp only [Act.put, Act.eval, Array.getD_eq_getD_getElem?, List.getElem?_toArray, List.getElem?_cons_succ, List.getElem?_cons_zero, Option.getD_some, List.setIfInBounds_toArray, List.set_cons_zero, List.set_cons_succ]
          refine wpList_yield rfl _ (exec_move _ rfl) ?_
          simp only [Act.put, Act.eval, Array.getD_eq_getD_getElem?, List.getElem?_toArray, List.getElem?_cons_succ, List.getElem?_cons_zero, Option.getD_some, List.setIfInBounds_toArray, List.set_cons_zero, List.set_cons_succ]
          refine wpList_yield_w rfl _ (exec_move _ rfl) ?_
          simp only [Act.put, Act.eval, Array.getD_eq_getD_getElem?, List.getElem?_toArray, List.getElem?_cons_succ, List.getElem?_cons_zero, Option.getD_some, List.setIfInBounds_toArray, List.set_cons_zero, List.set_cons_succ]
          refine wpList_yield_w rfl _ (exec_move _ rfl) ?_
          simp only [Act.put, Act.eval, Array.getD_eq_getD_getElem?, List.getElem?_toArray, List.getElem?_cons_succ, List.getElem?_cons_zero, Option.getD_some, List.setIfInBounds_toArray, List.set_cons_zero, List.set_cons_succ]
          refine no_implicit_lambda% (wpList_skip_w ?k32_4 ?_)
          case k32_4 => rfl
          simp only [Act.put, List.setIfInBounds_toArray, List.set_cons_zero, List.set_cons_succ]
          refine no_implicit_lambda% (wpList_skip_w ?k33_5 ?_)
          case k33_5 => rfl
          simp only [Act.put, List.setIfInBounds_toArray, List.set_cons_zero, List.set_cons_succ]
          refine no_implicit_lambda% (wpList_skip_w ?k34_6 ?_)
          case k34_6 => rfl
          simp only [Act.put, List.setIfInBounds_toArray, List.set_cons_zero, List.set_cons_succ]
          refine no_implicit_lambda% (wpList_skip_w ?k35_7 ?_)
          case k35_7 => rfl
          simp only [Act.put, List.setIfInBounds_toArray, List.set_cons_zero, List.set_cons_succ]
          refine no_implicit_lambda% (wpList_skip_w ?k36_8 ?_)
          case k36_8 => rfl
          simp only [Act.put, List.setIfInBounds_toArray, List.set_cons_zero, List.set_cons_succ]
          refine no_implicit_lambda% (wpList_skip_w ?k37_9 ?_)
          case k37_9 => rfl
          simp only [Act.put, List.setIfInBounds_toArray, List.set_cons_zero, List.set_cons_succ]
          refine no_implicit_lambda% (wpList_skip_w ?k38_10 ?_)
          case k38_10 => rfl
          simp only [Act.put, List.setIfInBounds_toArray, List.set_cons_zero, List.set_cons_succ]
          refine no_implicit_lambda% (wpList_skip_w ?k39_11 ?_)
          case k39_11 => rfl
          simp only [Act.put, List.setIfInBounds_toArray, List.set_cons_zero, List.set_cons_succ]
          refine wpList_yield_w rfl ?vp40_12 ?yp40_12 ?_
          case yp40_12 => go_simp; try with_reducible rfl
          simp only [Act.put, List.setIfInBounds_toArray, List.set_cons_zero, List.set_cons_succ]
          refine wpList_yield rfl ?vp41_13 ?yp41_13 ?_
          case yp41_13 => go_simp; try with_reducible rfl
          simp only [Act.put, List.setIfInBounds_toArray, List.set_cons_zero, List.set_cons_succ]
          refine wpList_yield rfl _ (exec_assign _ rfl) ?_
          simp only [Act.put, Act.eval, Array.getD_eq_getD_getElem?, List.getElem?_toArray, List.getElem?_cons_succ, List.getElem?_cons_zero, Option.getD_some, List.setIfInBounds_toArray, List.set_cons_zero, List.set_cons_succ]
          refine wpList_nil ?_
          go_wp2_with fail
          go_ret
          exact ⟨rfl, hB9⟩
        | true =>
          obtain rfl : E = true := hEv
          obtain rfl : O = true := hOv
          obtain rfl : false = KK := HKd.out
          clear HKd
          obtain ⟨z1, z2⟩ := S4.out rfl
          obtain rfl : k1 = 0 := t3.len.symm.trans z1
          obtain rfl : k2 = 0 := t4.len.symm.trans z2
          clear S4
          go_upto_region 6 with fail
          refine wp_region_lit ?_
          refine wpList_yield rfl _ (exec_move _ rfl) ?_
          simp only [Act.put, Act.eval, Array.getD_eq_getD_getElem?, List.getElem?_toArray, List.getElem?_cons_succ, List.getElem?_cons_zero, Option.getD_some, List.setIfInBounds_toArray, List.set_cons_zero, List.set_cons_succ]
          refine wpList_yield rfl _ (exec_move _ rfl) ?_
          simp only [Act.put, Act.eval, Array.getD_eq_getD_getElem?, List.getElem?_toArray, List.getElem?_cons_succ, List.getElem?_cons_zero, Option.getD_some, List.setIfInBounds_toArray, List.set_cons_zero, List.set_cons_succ]
          refine wpList_yield rfl _ (exec_move _ rfl) ?_
          simp only [Act.put, Act.eval, Array.getD_eq_getD_getElem?, List.getElem?_toArray, List.getElem?_cons_succ, List.getElem?_cons_zero, Option.getD_some, List.setIfInBounds_toArray, List.set_cons_zero, List.set_cons_succ]
          refine wpList_yield_w rfl _ (exec_move _ rfl) ?_
          simp only [Act.put, Act.eval, Array.getD_eq_getD_getElem?, List.getElem?_toArray, List.getElem?_cons_succ, List.getElem?_cons_zero, Option.getD_some, List.setIfInBounds_toArray, List.set_cons_zero, List.set_cons_succ]
          refine wpList_yield_w rfl _ (exec_move _ rfl) ?_
          simp only [Act.put, Act.eval, Array.getD_eq_getD_getElem?, List.getElem?_toArray, List.getElem?_cons_succ, List.getElem?_cons_zero, Option.getD_some, List.setIfInBounds_toArray, List.set_cons_zero, List.set_cons_succ]
          refine wpList_plain_w rfl fun K hK => ?_; go_simp
          with_reducible refine (SM w7 x7 y7).out.mono ?_
          rintro e w8 ⟨rfl, hw8⟩
          refine hK _ _ ?_; clear hK
          (try simp only [Act.put, List.setIfInBounds_toArray, List.set_cons_zero, List.set_cons_succ])
          refine wpList_yield_w rfl ?vp42_6 ?yp42_6 ?_
          case yp42_6 => go_simp; try with_reducible rfl
          simp only [Act.put, List.setIfInBounds_toArray, List.set_cons_zero, List.set_cons_succ]
          refine wpList_yield rfl ?vp43_7 ?yp43_7 ?_
          case yp43_7 => go_simp; try with_reducible rfl
          simp only [Act.put, List.setIfInBounds_toArray, List.set_cons_zero, List.set_cons_succ]
          refine wpList_yield rfl ?vp44_8 ?yp44_8 ?_
          case yp44_8 => go_simp; try with_reducible rfl
          simp only [Act.put, List.setIfInBounds_toArray, List.set_cons_zero, List.set_cons_succ]
          refine wpList_yield rfl _ (exec_move _ rfl) ?_
          simp only [Act.put, Act.eval, Array.getD_eq_getD_getElem?, List.getElem?_toArray, List.getElem?_cons_succ, List.getElem?_cons_zero, Option.getD_some, List.setIfInBounds_toArray, List.set_cons_zero, List.set_cons_succ]
          refine wpList_yield_w rfl _ (exec_move _ rfl) ?_
          simp only [Act.put, Act.eval, Array.getD_eq_getD_getElem?, List.getElem?_toArray, List.getElem?_cons_succ, List.getElem?_cons_zero, Option.getD_some, List.setIfInBounds_toArray, List.set_cons_zero, List.set_cons_succ]
          refine wpList_yield_w rfl _ (exec_load_agg at124 (.tmp 7) rfl G 124 [.slice B1 0 d1, .slice B2 0 d2] rfl (hb7.below hw8 hb7.lt) rfl) ?_
          simp only [Act.put, List.setIfInBounds_toArray, List.set_cons_zero, List.set_cons_succ]
          refine wpList_plain_w rfl fun K hK => ?_; go_simp
          with_reducible refine (CL _ _ _ _ _ _ w8 (t3.below hw8) (t4.below hw8)).out.mono ?_
          rintro e w9 ⟨rfl, hw9⟩
          refine hK _ _ ?_; clear hK
          (try simp only [Act.put, List.setIfInBounds_toArray, List.set_cons_zero, List.set_cons_succ])
          refine wpList_yield_w rfl ?vp45_13 ?yp45_13 ?_
          case yp45_13 => go_simp; try with_reducible rfl
          simp only [Act.put, List.setIfInBounds_toArray, List.set_cons_zero, List.set_cons_succ]
          refine wpList_yield rfl ?vp46_14 ?yp46_14 ?_
          case yp46_14 => go_simp; try with_reducible rfl
          simp only [Act.put, List.setIfInBounds_toArray, List.set_cons_zero, List.set_cons_succ]
          refine wpList_nil ?_
          have hB9 := bthen (bthen hB7 hw8 hB7.size) hw9 (bthen hB7 hw8 hB7.size).size
          clear SM CL FI FA FB HO HA HB t3 t4 x7 y7 z124 X1 HFI hB7
          have hb9 := ((hb7.below hw8 hb7.lt)).below hw9 ((hb7.below hw8 hb7.lt)).lt
          have p9 := Lib.hid (pair_blk hb9)
          go_upto_region 8 with fail
          refine wp_region_lit ?_
          refine wpList_yield rfl _ (exec_move _ rfl) ?_
          simp only [Act.put, Act.eval, Array.getD_eq_getD_getElem?, List.getElem?_toArray, List.getElem?_cons_succ, List.getElem?_cons_zero, Option.getD_some, List.setIfInBounds_toArray, List.set_cons_zero, List.set_cons_succ]
          refine wpList_yield rfl _ (exec_move _ rfl) ?_
          simp only [Act.put, Act.eval, Array.getD_eq_getD_getElem?, List.getElem?_toArray, List.getElem?_cons_succ, List.getElem?_cons_zero, Option.getD_some, List.setIfInBounds_toArray, List.set_cons_zero, List.set_cons_succ]
          refine wpList_yield_w rfl _ (exec_move _ rfl) ?_
          simp only [Act.put, Act.eval, Array.getD_eq_getD_getElem?, List.getElem?_toArray, List.getElem?_cons_succ, List.getElem?_cons_zero, Option.getD_some, List.setIfInBounds_toArray, List.set_cons_zero, List.set_cons_succ]
          refine wpList_yield_w rfl _ (exec_move _ rfl) ?_
          simp only [Act.put, Act.eval, Array.getD_eq_getD_getElem?, List.getElem?_toArray, List.getElem?_cons_succ, List.getElem?_cons_zero, Option.getD_some, List.setIfInBounds_toArray, List.set_cons_zero, List.set_cons_succ]
          refine wpList_yield_w rfl _ (exec_g0 _ rfl G rfl) ?_
          simp only [Act.put, List.setIfInBounds_toArray, List.set_cons_zero, List.set_cons_succ]
          refine wpList_yield_w rfl _ (exec_load24 _ rfl _ _ rfl p9.out.1) ?_
          simp only [Act.put, List.setIfInBounds_toArray, List.set_cons_zero, List.set_cons_succ]
          refine wpList_yield_w rfl _ (exec_len24 _ rfl B1 0 d1 rfl) ?_
          simp only [Act.put, List.setIfInBounds_toArray, List.set_cons_zero, List.set_cons_succ]
          refine wpList_yield_w rfl _ (exec_g1 _ rfl G rfl) ?_
          simp only [Act.put, List.setIfInBounds_toArray, List.set_cons_zero, List.set_cons_succ]
          refine wpList_yield_w rfl _ (exec_load24 _ rfl _ _ rfl p9.out.2) ?_
          simp only [Act.put, List.setIfInBounds_toArray, List.set_cons_zero, List.set_cons_succ]
          refine wpList_yield_w rfl _ (exec_len24 _ rfl B2 0 d2 rfl) ?_
          simp only [Act.put, List.setIfInBounds_toArray, List.set_cons_zero, List.set_cons_succ]
          refine wpList_yield_w rfl ?vp47_10 ?yp47_10 ?_
          case yp47_10 => go_simp; try with_reducible rfl
          simp only [Act.put, List.setIfInBounds_toArray, List.set_cons_zero, List.set_cons_succ]
          refine wpList_yield_w rfl ?vp48_11 ?yp48_11 ?_
          case yp48_11 => go_simp; try with_reducible rfl
          simp only [Act.put, List.setIfInBounds_toArray, List.set_cons_zero, List.set_cons_succ]
          refine wpList_yield_w rfl ?vp49_12 ?yp49_12 ?_
          case yp49_12 => go_simp; try with_reducible rfl
          simp only [Act.put, List.setIfInBounds_toArray, List.set_cons_zero, List.set_cons_succ]
          refine wpList_yield rfl ?vp50_13 ?yp50_13 ?_
          case yp50_13 => go_simp; try with_reducible rfl
          simp only [Act.put, List.setIfInBounds_toArray, List.set_cons_zero, List.set_cons_succ]
          refine wpList_yield rfl _ (exec_assign _ rfl) ?_
          simp only [Act.put, Act.eval, Array.getD_eq_getD_getElem?, List.getElem?_toArray, List.getElem?_cons_succ, List.getElem?_cons_zero, Option.getD_some, List.setIfInBounds_toArray, List.set_cons_zero, List.set_cons_succ]
          refine wpList_nil ?_
          go_wp2_with fail
          go_ret
          exact ⟨rfl, hB9⟩
end Go.Proofs.Ytehbahobkgoapaa
namespace Go.Proofs.Ytehbahobkgoapaa
open Go Go.RowKit Go.ChangeShapes Go.WideShapes Go.ChangeAt
section
variable {H : Type} {enc : TypeId × Value → H} {P : Program} {W : World} {base : Nat}
theorem arr_bytes {n : Nat} {T E : TypeId} {fuel : Nat} {cs : List Value} {x : DataW H × List MemPlace} (ht : P.underlying T = some (.array n E)) (he : P.underlying E = some (.int .u8)) (hc : P.cellsOf E = 1) (hl : cs.length = n)
    (hf : DataW.trod enc P W 0 (fun _ => true) true fuel T cs = some x) : ∃ k : List UInt8, k.length = n ∧ cs = bvs k := by
  obtain ⟨xs, m, _, _, _, hxl, hi⟩ := DataW.trod_array ht hf
  have hone : ∀ i, i < n → ∃ x : UInt8, cs[i]? = some (bv x) := by
    intro i hi'
    have h1 := hi i hi'
    rw [hc, Nat.mul_one, List.drop_eq_getElem_cons (by omega), List.take_succ_cons, List.take_zero, List.getElem?_eq_getElem (by omega)] at h1
    obtain ⟨z, hz, _, hw⟩ := DataW.trod_int he h1
    injection hz with hz _
    exact ⟨_, by rw [List.getElem?_eq_getElem (by omega), hz, byte_of_int hw]⟩
  obtain ⟨f, hfn⟩ := Deep.choose_lt hone
  refine ⟨(List.range n).map f, by simp, ?_⟩
  apply List.ext_getElem?
  intro i
  simp only [bvs, List.map_map, List.getElem?_map]
  by_cases h : i < n
  · rw [hfn i h, List.getElem?_range h]; rfl
  · rw [List.getElem?_eq_none (by omega), List.getElem?_eq_none (by simp; omega)]; rfl
theorem flatf_get (f : Nat → List UInt8) (n : Nat) (h : ∀ i, i < n → (f i).length = 32) (j : Nat) (hj : j < 32 * n) : (((List.range n).map f).flatten)[j]? = (f (j / 32))[j % 32]? := by
  induction n with
  | zero => omega
  | succ n ih =>
    have h' : ∀ i, i < n → (f i).length = 32 := fun i hi => h i (by omega)
    have hl : ((List.range n).map f).flatten.length = 32 * n := by
      rw [flat32_len _ (by intro l hl; simp only [List.mem_map, List.mem_range] at hl; obtain ⟨i, hi, rfl⟩ := hl; exact h' i hi)]
      simp
    rw [List.range_succ, List.map_append, List.flatten_append]
    by_cases hlt : j < 32 * n
    · rw [List.getElem?_append_left (by omega), ih h' hlt]
    · rw [List.getElem?_append_right (by omega), hl]
      have e1 : j / 32 = n := by omega
      have e2 : j % 32 = j - 32 * n := by omega
      rw [e1, e2]; simp
theorem open_digs {T E Q : TypeId} (ht : P.underlying T = some (.slice E)) (hE : P.underlying E = some (.array 32 Q)) (hQ : P.underlying Q = some (.int .u8)) (cq : P.cellsOf Q = 1) (cE : P.cellsOf E = 32) {v : Value} {d : DataW H} {p : List MemPlace}
    (hv : Value.okWide P W .any base T v) (h : DataW.Trod enc P W 0 (fun _ => true) true T v d p) :
    ∃ A n c ls, v = .slice A n c ∧ Hl W A n c ls := by
  obtain ⟨A, n, c, rfl⟩ := okWide_slice ht hv
  obtain ⟨fuel, hf⟩ := h
  rcases Deep.open_slice ht hf with ⟨hcs, hx⟩ | ⟨a, len, cap, m, k, D, Pl, hcs, _, hl, hm, hmm, hx, hi⟩
  · simp [Value.cells] at hcs
    obtain ⟨rfl, rfl, rfl⟩ := hcs
    exact ⟨none, 0, 0, [], rfl, ⟨rfl, Nat.le_refl _, by simp, Rd.nil _ _, by simp⟩⟩
  · simp [Value.cells] at hcs
    obtain ⟨rfl, rfl, rfl⟩ := hcs
    simp only [if_true] at hmm
    subst m
    rw [cE] at hi
    obtain ⟨f, hfn⟩ := Deep.choose_lt (p := fun i (l : List UInt8) => W.cells? 0 (a.add (i * 32)) 32 = some (bvs l) ∧ l.length = 32) (n := n) (fun i hin => by
      obtain ⟨cs', h1, h2⟩ := hi i (by omega)
      obtain ⟨_, hlen, _⟩ := World.cells?_some h1
      obtain ⟨l, hl1, rfl⟩ := arr_bytes hE hQ cq hlen h2
      exact ⟨l, h1, hl1⟩)
    have hfl : ((List.range n).map f).flatten.length = 32 * n := by
      rw [flat32_len _ (by intro l hl; simp only [List.mem_map, List.mem_range] at hl; obtain ⟨i, hi, rfl⟩ := hl; exact (hfn i hi).2)]
      simp
    refine ⟨some a, n, c, (List.range n).map f, rfl, ⟨by simp, hl, hm, fun _ => ⟨a, rfl, fun j u hu => ?_⟩, ?_⟩⟩
    · have hj : j < 32 * n := by
        have := (List.getElem?_eq_some_iff.1 hu).1
        rw [bvs_length, hfl] at this; exact this
      simp only [bvs, List.getElem?_map] at hu
      rw [flatf_get f n (fun i hi => (hfn i hi).2) j hj] at hu
      obtain ⟨h1, h2⟩ := hfn (j / 32) (by omega)
      obtain ⟨_, _, h3⟩ := World.cells?_some h1
      have h4 := h3 (j % 32) (by omega)
      rw [Deep.add_add, show j / 32 * 32 + j % 32 = j by omega] at h4
      rw [h4]
      simp only [bvs, List.getElem?_map]
      exact hu
    · intro l hl
      simp only [List.mem_map, List.mem_range] at hl
      obtain ⟨i, hi, rfl⟩ := hl
      exact (hfn i hi).2
end
end Go.Proofs.Ytehbahobkgoapaa
