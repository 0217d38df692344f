/- Contracts of octet.Join, tag.text and the four texts, and of the reference's Text, LeafText, InnerText. -/
import Derived.Test.YtehbahobkgoapaaKic
namespace Go.Proofs.Ytehbahobkgoapaa
open Go Go.RowKit
set_option linter.unusedSimpArgs false
set_option linter.unusedVariables false

theorem st30 : ST Try.prog 30 24 1 := ⟨Try.underlying30, by kernel_rfl⟩
theorem et24 : ET Try.prog 24 (.slice none 0 0) 1 24 := ⟨by kernel_rfl, rfl, by omega⟩

theorem flatten_take_le (ls : List (List UInt8)) (k : Nat) : (ls.take k).flatten.length ≤ ls.flatten.length := by
  induction ls generalizing k with
  | nil => simp
  | cons l ls ih =>
    cases k with
    | zero => simp
    | succ k => have := ih k; simp; simp at this; exact this
theorem flatten_take_succ (ls : List (List UInt8)) (k : Nat) (h : k < ls.length) : (ls.take (k + 1)).flatten = (ls.take k).flatten ++ ls[k] := by
  rw [List.take_succ_eq_append_getElem h, List.flatten_append]; simp only [List.flatten_cons, List.flatten_nil, List.append_nil]
theorem flatten_take_len (ls : List (List UInt8)) (k : Nat) (h : k < ls.length) : (ls.take k).flatten.length + ls[k].length ≤ ls.flatten.length := by
  have := flatten_take_le ls (k + 1)
  rw [flatten_take_succ ls k h] at this
  simpa using this

set_option maxRecDepth 100000 in
theorem join_any0 (A : Option Addr) (c : Nat) (vs : List Value) (ls : List (List UInt8)) (w : World) (hr : Rd w A vs) (ha : AllRd w vs ls) (hn : ls.length ≤ 9223372036854775807) (hb : ls.flatten.length ≤ 140737488355328) :
   Calls Try.prog 35 #[.slice A ls.length c] w fun e w' => ∃ v, e = .returned v ∧ OwnB w' w.heap.size 5 v ls.flatten ∧ Below w.heap.size w w' := by
  have HL := Lib.hid ha.1
  go_enter Try.func35, Try.ntmps35
  go_wp2_with fail
  go_loopw [3, 8] (fun out i wr => ∃ k : Nat, k ≤ ls.length ∧ i = .int .i64 (k : Int) ∧ OwnB wr w.heap.size 5 out (ls.take k).flatten ∧ Below w.heap.size w wr) (fun _ i _ => ls.length - (intOf i).toNat)
  case atStart => exact ⟨0, by omega, by go_num, OwnB.nil _ _ _, Below.refl _ _⟩
  case round =>
    obtain ⟨k, hk, rfl, ho, hw⟩ := hrel
    by_cases hlt : k < ls.length
    · obtain ⟨v, hv⟩ : ∃ v, vs[k]? = some v := ⟨_, List.getElem?_eq_getElem (by have := HL.out; omega)⟩
      obtain ⟨ad, rfl, hcc⟩ := hr (by have := HL.out; omega)
      have hc : wr.cell? (ad.add k) = some v := (hw.cell (World.block_lt_of_cell? w _ (hcc k v hv))).trans (hcc k v hv)
      obtain ⟨A, d, rfl, hd, hrd⟩ := ha.2 k v ls[k] hv (List.getElem?_eq_getElem hlt)
      have hlen := flatten_take_len ls k hlt
      have HF := Lib.hid (flatten_take_succ ls k hlt)
      go_wp2_with ((with_reducible refine at_dst 14 ?_); refine wpList_append_bytes bt rfl (.tmp 12) (.tmp 13) rfl w.heap.size u3 _ rfl ho A ls[k].length d ls[k] rfl rfl (hrd.below hw) (by omega) hw.size ?_; intro v1 w1 ho1 hg1 _)
      go_roundw
      case rel => exact ⟨k + 1, by omega, by go_num, by rw [HF.out]; exact ho1, hw.grown hg1 hw.size (fun g hg => (ho.lt g hg).1)⟩
      case measure => simp [intOf]; omega
    · obtain rfl : k = ls.length := by omega
      go_wp2
      go_ret
      rw [List.take_length] at ho
      exact ⟨u3, rfl, ho, hw⟩

theorem join_any (A : Option Addr) (n c : Nat) (vs : List Value) (ls : List (List UInt8)) (w : World) (hl : ls.length = n) (hr : Rd w A vs) (ha : AllRd w vs ls) (hn : ls.length ≤ 9223372036854775807) (hb : ls.flatten.length ≤ 140737488355328) :
   Calls Try.prog 35 #[.slice A n c] w fun e w' => ∃ v, e = .returned v ∧ OwnB w' w.heap.size 5 v ls.flatten ∧ Below w.heap.size w w' := by
  subst hl; exact join_any0 A c vs ls w hr ha hn hb

theorem text_any (t : UInt8) (A : Option Addr) (n c : Nat) (vs : List Value) (ls : List (List UInt8)) (w : World) (hl : ls.length = n) (hr : Rd w A vs) (ha : AllRd w vs ls) (hn : ls.length ≤ 1099511627776) (hb : ls.flatten.length + 1 ≤ 140737488355328) :
   Calls Try.prog 123 #[.int .u8 (t.toNat : Int), .slice A n c] w fun e w' => ∃ v, e = .returned v ∧ OwnB w' w.heap.size 5 v (t :: ls.flatten) ∧ Below w.heap.size w w' := by
  have HL := Lib.hid ha.1
  have HN := Lib.hid hl
  have hnn : n ≤ 1099511627776 := by omega
  clear hl
  have hB0 : Below w.heap.size w ((w.alloc (.cells #[.int .u8 (t.toNat : Int)] 5)).alloc (.cells #[.slice (some ⟨w.heap.size, 0, none⟩) 1 1] 24)) := ((Below.refl _ _).alloc (Nat.le_refl _) _).alloc (by simp) _
  have hO : ((w.alloc (.cells #[.int .u8 (t.toNat : Int)] 5)).alloc (.cells #[.slice (some ⟨w.heap.size, 0, none⟩) 1 1] 24)).ownsRow w.heap.size 24 1 (.slice (some ⟨w.heap.size + 1, 0, none⟩) 1 1) 1 [.slice (some ⟨w.heap.size, 0, none⟩) 1 1] :=
    ownsRow_of_blk w.heap.size 1 1 (by have := Blk.new (w.alloc (.cells #[.int .u8 (t.toNat : Int)] 5)) 24 [.slice (some ⟨w.heap.size, 0, none⟩) 1 1]; simpa using this) (by omega) rfl (by unfold maxLen; omega)
  have hT : Blk ((w.alloc (.cells #[.int .u8 (t.toNat : Int)] 5)).alloc (.cells #[.slice (some ⟨w.heap.size, 0, none⟩) 1 1] 24)) w.heap.size 5 (bvs [t]) := (Blk.new w 5 (bvs [t])).alloc _
  go_enter Try.func123, Try.ntmps123
  go_wp2_with ((with_reducible refine at_dst 9 ?_); refine wpList_append_row Try.underlying30 et24 rfl (.tmp 7) (.tmp 8) rfl w.heap.size (.slice (some ⟨w.heap.size + 1, 0, none⟩) 1 1) 1 _ rfl hO A n c vs rfl (by have := HL.out; have := HN.out; omega) (hr.below hB0) ha.one (by unfold maxLen; omega) (by omega) hB0.size ?_; intro v1 w1 ho1 hg1)
  obtain ⟨A1, c1, rfl, hc1, _, hr1⟩ := ownsRow_rd ho1
  have hw1 : Below w.heap.size w w1 := hB0.grown hg1 hB0.size (fun g hg => by simp [Value.ownBlock] at hg; omega)
  have hT1 : Blk w1 w.heap.size 5 (bvs [t]) := hT.grown hg1 (by simp [Value.ownBlock])
  have hS1 : Sl1 w1 (.slice (some ⟨w.heap.size, 0, none⟩) 1 1) [t] := ⟨_, 1, rfl, by simp, Rd.of_blk0 (es := []) (by simpa using hT1)⟩
  have ha1 : AllRd w1 ([.slice (some ⟨w.heap.size, 0, none⟩) 1 1] ++ vs) ([t] :: ls) := (AllRd.cons hS1 (AllRd.nil _)).append (ha.below hw1)
  clear hO hT hB0 ho1 hg1
  go_wp2_with fail
  refine (join_any A1 (1 + n) c1 _ ([t] :: ls) w1 (by have := HN.out; simp; omega) hr1 ha1 (by simp only [List.length_cons]; omega) (by simp only [List.flatten_cons, List.length_append, List.length_cons, List.length_nil]; omega)).mono ?_
  rintro e w2 ⟨v2, rfl, ho2, hw2⟩
  go_wp2_with fail
  go_ret
  exact ⟨v2, rfl, (by simpa using ho2.mono hw1.size), hw1.trans (hw2.mono hw1.size)⟩
theorem empty_text (w : World) : Calls Try.prog 26 #[] w fun e w' => ∃ v, e = .returned v ∧ OwnB w' w.heap.size 5 v [0] ∧ Below w.heap.size w w' := by
  go_enter Try.func26, Try.ntmps26
  go_wp2_with fail
  refine (text_any 0 none 0 0 [] [] w rfl (Rd.nil _ _) (AllRd.nil _) (by simp) (by simp)).mono ?_
  rintro e w1 ⟨v1, rfl, ho1, hw1⟩
  go_wp2_with fail
  go_ret
  exact ⟨v1, rfl, by simpa using ho1, hw1⟩

theorem Rd.one_blk {w : World} {g t : Nat} {u : Value} (h : Blk w g t [u]) : Rd w (some ⟨g, 0, none⟩) [u] := Rd.of_blk0 (es := []) (by simpa using h)

theorem value_text (v : Value) (l : List UInt8) (w : World) (hv : Sl1 w v l) (hl : l.length + 1 ≤ 140737488355328) :
    Calls Try.prog 27 #[v] w fun e w' => ∃ v, e = .returned v ∧ OwnB w' w.heap.size 5 v (3 :: l) ∧ Below w.heap.size w w' := by
  have hW : Below w.heap.size w (w.alloc (.cells #[v] 24)) := (Below.refl _ _).alloc (Nat.le_refl _) _
  obtain ⟨A, c, rfl, hc, hrd⟩ := hv
  have hv : Sl1 w (.slice A l.length c) l := ⟨A, c, rfl, hc, hrd⟩
  generalize hvv : Value.slice A l.length c = v at *
  have hR : Rd (w.alloc (.cells #[v] 24)) (some ⟨w.heap.size, 0, none⟩) [v] := Rd.one_blk (Blk.new w 24 [v])
  subst hvv
  go_enter Try.func27, Try.ntmps27
  go_wp2_with fail
  refine (text_any 3 (some ⟨w.heap.size, 0, none⟩) 1 1 [.slice A l.length c] [l] _ rfl hR ((AllRd.cons hv (AllRd.nil _)).below hW) (by simp) (by simpa using hl)).mono ?_
  rintro e w1 ⟨v1, rfl, ho1, hw1⟩
  go_wp2_with fail
  go_ret
  exact ⟨v1, rfl, by simpa using ho1.mono hW.size, hW.trans (hw1.mono hW.size)⟩

def arr8 (k : List UInt8) : Value := .agg (bvs k).toArray

set_option maxRecDepth 100000 in
theorem rtext0 (t : UInt8) (A : Option Addr) (c : Nat) (vs : List Value) (ls : List (List UInt8)) (w : World) (hr : Rd w A vs) (ha : AllRd w vs ls) (hn : ls.length ≤ 1099511627776) (hb : ls.flatten.length + 1 ≤ 140737488355328) :
   Calls Try.prog 30 #[.int .u8 (t.toNat : Int), .slice A ls.length c] w fun e w' => ∃ v, e = .returned v ∧ OwnB w' w.heap.size 5 v (t :: ls.flatten) ∧ Below w.heap.size w w' := by
  have HL := Lib.hid ha.1
  go_enter Try.func30, Try.ntmps30
  go_wp2_with fail
  go_loopw [5, 6] (fun out i wr => ∃ k : Nat, k ≤ ls.length ∧ i = .int .i64 (k : Int) ∧ OwnB wr w.heap.size 5 out (t :: (ls.take k).flatten) ∧ Below w.heap.size w wr) (fun _ i _ => ls.length - (intOf i).toNat)
  case atStart => exact ⟨0, by omega, by go_num, .inr ⟨w.heap.size, [], rfl, Nat.le_refl _, by unfold maxLen; simp, Blk.new w 5 (bvs [t])⟩, (Below.refl _ _).alloc (Nat.le_refl _) _⟩
  case round =>
    obtain ⟨k, hk, rfl, ho, hw⟩ := hrel
    by_cases hlt : k < ls.length
    · obtain ⟨v, hv⟩ : ∃ v, vs[k]? = some v := ⟨_, List.getElem?_eq_getElem (by have := HL.out; omega)⟩
      obtain ⟨ad, rfl, hcc⟩ := hr (by have := HL.out; omega)
      have hc : wr.cell? (ad.add k) = some v := (hw.cell (World.block_lt_of_cell? w _ (hcc k v hv))).trans (hcc k v hv)
      obtain ⟨A, d, rfl, hd, hrd⟩ := ha.2 k v ls[k] hv (List.getElem?_eq_getElem hlt)
      have hlen := flatten_take_len ls k hlt
      have HF := Lib.hid (flatten_take_succ ls k hlt)
      go_wp2_with ((with_reducible refine at_dst 20 ?_); refine wpList_append_bytes bt rfl (.tmp 15) (.tmp 19) rfl w.heap.size u5 _ rfl ho A ls[k].length d ls[k] rfl rfl (hrd.below hw) (by simp only [List.length_cons]; omega) hw.size ?_; intro v1 w1 ho1 hg1 _)
      go_roundw
      case rel => exact ⟨k + 1, by omega, by go_num, by rw [HF.out]; exact ho1, hw.grown hg1 hw.size (fun g hg => (ho.lt g hg).1)⟩
      case measure => simp [intOf]; omega
    · obtain rfl : k = ls.length := by omega
      go_wp2
      go_ret
      rw [List.take_length] at ho
      exact ⟨u5, rfl, ho, hw⟩

theorem rtext (t : UInt8) (A : Option Addr) (n c : Nat) (vs : List Value) (ls : List (List UInt8)) (w : World) (hl : ls.length = n) (hr : Rd w A vs) (ha : AllRd w vs ls) (hn : ls.length ≤ 1099511627776) (hb : ls.flatten.length + 1 ≤ 140737488355328) :
   Calls Try.prog 30 #[.int .u8 (t.toNat : Int), .slice A n c] w fun e w' => ∃ v, e = .returned v ∧ OwnB w' w.heap.size 5 v (t :: ls.flatten) ∧ Below w.heap.size w w' := by
  subst hl; exact rtext0 t A c vs ls w hr ha hn hb

set_option maxRecDepth 100000 in
theorem leaf_text (k v : List UInt8) (w : World) (hk : k.length = 32) (hv : v.length = 32) :
    Calls Try.prog 28 #[arr8 k, arr8 v] w fun e w' => ∃ u, e = .returned u ∧ OwnB w' w.heap.size 5 u (1 :: (k ++ v)) ∧ Below w.heap.size w w' := by
  have HK := Lib.hid hk
  have HV := Lib.hid hv
  clear hk hv
  unfold arr8
  go_enter Try.func28, Try.ntmps28
  go_wp2_with fail
  generalize hW : (w.alloc (.cells (bvs k).toArray 23)).alloc (.cells (bvs v).toArray 25) = w0
  have hB0 : Below w.heap.size w w0 := by rw [← hW]; exact ((Below.refl _ _).alloc (Nat.le_refl _) _).alloc (by simp) _
  have hbk : Blk w0 w.heap.size 23 (bvs k) := by rw [← hW]; exact (Blk.new _ _ _).alloc _
  have hbv : Blk w0 (w.heap.size + 1) 25 (bvs v) := by
    rw [← hW]
    have := Blk.new (w.alloc (.cells (bvs k).toArray 23)) 25 (bvs v)
    simpa using this
  clear hW
  have hsk : Sl1 w0 (.slice (some ⟨w.heap.size, 0, none⟩) 32 32) k := ⟨_, 32, by rw [HK.out], by rw [HK.out]; omega, Rd.of_blk0 (es := []) (by simpa using hbk)⟩
  have hsv : Sl1 w0 (.slice (some ⟨w.heap.size + 1, 0, none⟩) 32 32) v := ⟨_, 32, by rw [HV.out], by rw [HV.out]; omega, Rd.of_blk0 (es := []) (by simpa using hbv)⟩
  refine rg_begin (Below w0.heap.size w0) [] [2, 3] [0, 1, 2, 3, 4] 0 mixed (by kernel_rfl) (fun _ _ _ _ e hh => ⟨e.symm.trans hh.1, hh.2⟩) ?_
  simp only [pick, List.map_cons, List.map_nil, List.getD_cons_zero, List.getD_cons_succ]
  have hS : (Below w0.heap.size w0) _ := (Below.refl _ _).drew
  refine rg_take (v := ?v1_0) rfl rfl hS ?y1_0 ?_
  case y1_0 => intro W hW; (try subst hW); go_simp; try with_reducible rfl
  simp only [Act.put, List.setIfInBounds_toArray, List.set_cons_zero, List.set_cons_succ]
  refine rg_take (v := ?v1_1) rfl rfl hS ?y1_1 ?_
  case y1_1 => intro W hW; (try subst hW); go_simp; try with_reducible rfl
  simp only [Act.put, List.setIfInBounds_toArray, List.set_cons_zero, List.set_cons_succ]
  refine rg_one rfl rfl ?_; intro K hK; go_simp
  have hS1 : Below w0.heap.size w0 (w0.alloc (.cells #[.slice (some ⟨w.heap.size, 0, none⟩) 32 32, .slice (some ⟨w.heap.size + 1, 0, none⟩) 32 32] 24)).drew := ((Below.refl _ _).alloc (Nat.le_refl _) _).drew
  have hR1 : Rd (w0.alloc (.cells #[.slice (some ⟨w.heap.size, 0, none⟩) 32 32, .slice (some ⟨w.heap.size + 1, 0, none⟩) 32 32] 24)).drew (some ⟨w0.heap.size, 0, none⟩) [.slice (some ⟨w.heap.size, 0, none⟩) 32 32, .slice (some ⟨w.heap.size + 1, 0, none⟩) 32 32] :=
    Rd.of_blk0 (es := []) (by simpa using (Blk.new w0 24 [.slice (some ⟨w.heap.size, 0, none⟩) 32 32, .slice (some ⟨w.heap.size + 1, 0, none⟩) 32 32]).drew)
  refine hK _ _ (fun _ => hS1) ?_; clear hK
  generalize (w0.alloc (.cells #[.slice (some ⟨w.heap.size, 0, none⟩) 32 32, .slice (some ⟨w.heap.size + 1, 0, none⟩) 32 32] 24)).drew = w1 at *
  refine rg_one rfl rfl ?_; intro K hK; go_simp
  refine (text_any 1 (some ⟨w0.heap.size, 0, none⟩) 2 2 _ [k, v] w1 rfl hR1 ((AllRd.cons hsk (AllRd.cons hsv (AllRd.nil _))).below hS1) (by simp) (by have := HK.out; have := HV.out; simp; omega)).mono ?_
  rintro e w2 ⟨v2, rfl, ho2, hw2⟩
  have hS2 : Below w0.heap.size w0 w2 := hS1.trans (hw2.mono hS1.size)
  refine hK _ _ (fun _ => hS2) ?_; clear hK
  refine rg_take (v := ?v1_4) rfl rfl hS2 ?y1_4 ?_
  case y1_4 => intro W hW; (try subst hW); go_simp; try with_reducible rfl
  simp only [Act.put, List.setIfInBounds_toArray, List.set_cons_zero, List.set_cons_succ]
  refine rg_done (by kernel_rfl) ?_
  go_wp2_with fail
  go_ret
  exact ⟨v2, rfl, by simpa using ho2.mono (Nat.le_trans hB0.size hS1.size), hB0.trans (hS2.mono hB0.size)⟩

set_option maxRecDepth 100000 in
theorem inner_text (k v : List UInt8) (w : World) (hk : k.length = 32) (hv : v.length = 32) :
    Calls Try.prog 29 #[arr8 k, arr8 v] w fun e w' => ∃ u, e = .returned u ∧ OwnB w' w.heap.size 5 u (2 :: (k ++ v)) ∧ Below w.heap.size w w' := by
  have HK := Lib.hid hk
  have HV := Lib.hid hv
  clear hk hv
  unfold arr8
  go_enter Try.func29, Try.ntmps29
  go_wp2_with fail
  generalize hW : (w.alloc (.cells (bvs k).toArray 25)).alloc (.cells (bvs v).toArray 25) = w0
  have hB0 : Below w.heap.size w w0 := by rw [← hW]; exact ((Below.refl _ _).alloc (Nat.le_refl _) _).alloc (by simp) _
  have hbk : Blk w0 w.heap.size 25 (bvs k) := by rw [← hW]; exact (Blk.new _ _ _).alloc _
  have hbv : Blk w0 (w.heap.size + 1) 25 (bvs v) := by
    rw [← hW]
    have := Blk.new (w.alloc (.cells (bvs k).toArray 25)) 25 (bvs v)
    simpa using this
  clear hW
  have hsk : Sl1 w0 (.slice (some ⟨w.heap.size, 0, none⟩) 32 32) k := ⟨_, 32, by rw [HK.out], by rw [HK.out]; omega, Rd.of_blk0 (es := []) (by simpa using hbk)⟩
  have hsv : Sl1 w0 (.slice (some ⟨w.heap.size + 1, 0, none⟩) 32 32) v := ⟨_, 32, by rw [HV.out], by rw [HV.out]; omega, Rd.of_blk0 (es := []) (by simpa using hbv)⟩
  refine rg_begin (Below w0.heap.size w0) [] [2, 3] [0, 1, 2, 3, 4] 0 mixed (by kernel_rfl) (fun _ _ _ _ e hh => ⟨e.symm.trans hh.1, hh.2⟩) ?_
  simp only [pick, List.map_cons, List.map_nil, List.getD_cons_zero, List.getD_cons_succ]
  have hS : (Below w0.heap.size w0) _ := (Below.refl _ _).drew
  refine rg_take (v := ?v2_0) rfl rfl hS ?y2_0 ?_
  case y2_0 => intro W hW; (try subst hW); go_simp; try with_reducible rfl
  simp only [Act.put, List.setIfInBounds_toArray, List.set_cons_zero, List.set_cons_succ]
  refine rg_take (v := ?v2_1) rfl rfl hS ?y2_1 ?_
  case y2_1 => intro W hW; (try subst hW); go_simp; try with_reducible rfl
  simp only [Act.put, List.setIfInBounds_toArray, List.set_cons_zero, List.set_cons_succ]
  refine rg_one rfl rfl ?_; intro K hK; go_simp
  have hS1 : Below w0.heap.size w0 (w0.alloc (.cells #[.slice (some ⟨w.heap.size, 0, none⟩) 32 32, .slice (some ⟨w.heap.size + 1, 0, none⟩) 32 32] 24)).drew := ((Below.refl _ _).alloc (Nat.le_refl _) _).drew
  have hR1 : Rd (w0.alloc (.cells #[.slice (some ⟨w.heap.size, 0, none⟩) 32 32, .slice (some ⟨w.heap.size + 1, 0, none⟩) 32 32] 24)).drew (some ⟨w0.heap.size, 0, none⟩) [.slice (some ⟨w.heap.size, 0, none⟩) 32 32, .slice (some ⟨w.heap.size + 1, 0, none⟩) 32 32] :=
    Rd.of_blk0 (es := []) (by simpa using (Blk.new w0 24 [.slice (some ⟨w.heap.size, 0, none⟩) 32 32, .slice (some ⟨w.heap.size + 1, 0, none⟩) 32 32]).drew)
  refine hK _ _ (fun _ => hS1) ?_; clear hK
  generalize (w0.alloc (.cells #[.slice (some ⟨w.heap.size, 0, none⟩) 32 32, .slice (some ⟨w.heap.size + 1, 0, none⟩) 32 32] 24)).drew = w1 at *
  refine rg_one rfl rfl ?_; intro K hK; go_simp
  refine (text_any 2 (some ⟨w0.heap.size, 0, none⟩) 2 2 _ [k, v] w1 rfl hR1 ((AllRd.cons hsk (AllRd.cons hsv (AllRd.nil _))).below hS1) (by simp) (by have := HK.out; have := HV.out; simp; omega)).mono ?_
  rintro e w2 ⟨v2, rfl, ho2, hw2⟩
  have hS2 : Below w0.heap.size w0 w2 := hS1.trans (hw2.mono hS1.size)
  refine hK _ _ (fun _ => hS2) ?_; clear hK
  refine rg_take (v := ?v2_4) rfl rfl hS2 ?y2_4 ?_
  case y2_4 => intro W hW; (try subst hW); go_simp; try with_reducible rfl
  simp only [Act.put, List.setIfInBounds_toArray, List.set_cons_zero, List.set_cons_succ]
  refine rg_done (by kernel_rfl) ?_
  go_wp2_with fail
  go_ret
  exact ⟨v2, rfl, by simpa using ho2.mono (Nat.le_trans hB0.size hS1.size), hB0.trans (hS2.mono hB0.size)⟩

set_option maxRecDepth 100000 in
theorem rleaf_text (k v : List UInt8) (w : World) (hk : k.length = 32) (hv : v.length = 32) :
    Calls Try.prog 31 #[arr8 k, arr8 v] w fun e w' => ∃ u, e = .returned u ∧ OwnB w' w.heap.size 5 u (1 :: (k ++ v)) ∧ Below w.heap.size w w' := by
  have HK := Lib.hid hk
  have HV := Lib.hid hv
  clear hk hv
  unfold arr8
  go_enter Try.func31, Try.ntmps31
  go_wp2_with fail
  generalize hW : (w.alloc (.cells (bvs k).toArray 22)).alloc (.cells (bvs v).toArray 22) = w0
  have hB0 : Below w.heap.size w w0 := by rw [← hW]; exact ((Below.refl _ _).alloc (Nat.le_refl _) _).alloc (by simp) _
  have hbk : Blk w0 w.heap.size 22 (bvs k) := by rw [← hW]; exact (Blk.new _ _ _).alloc _
  have hbv : Blk w0 (w.heap.size + 1) 22 (bvs v) := by
    rw [← hW]
    have := Blk.new (w.alloc (.cells (bvs k).toArray 22)) 22 (bvs v)
    simpa using this
  clear hW
  have hsk : Sl1 w0 (.slice (some ⟨w.heap.size, 0, none⟩) 32 32) k := ⟨_, 32, by rw [HK.out], by rw [HK.out]; omega, Rd.of_blk0 (es := []) (by simpa using hbk)⟩
  have hsv : Sl1 w0 (.slice (some ⟨w.heap.size + 1, 0, none⟩) 32 32) v := ⟨_, 32, by rw [HV.out], by rw [HV.out]; omega, Rd.of_blk0 (es := []) (by simpa using hbv)⟩
  refine rg_begin (Below w0.heap.size w0) [] [2, 3] [0, 1, 2, 3, 4] 0 mixed (by kernel_rfl) (fun _ _ _ _ e hh => ⟨e.symm.trans hh.1, hh.2⟩) ?_
  simp only [pick, List.map_cons, List.map_nil, List.getD_cons_zero, List.getD_cons_succ]
  have hS : (Below w0.heap.size w0) _ := (Below.refl _ _).drew
  refine rg_take (v := ?v3_0) rfl rfl hS ?y3_0 ?_
  case y3_0 => intro W hW; (try subst hW); go_simp; try with_reducible rfl
  simp only [Act.put, List.setIfInBounds_toArray, List.set_cons_zero, List.set_cons_succ]
  refine rg_take (v := ?v3_1) rfl rfl hS ?y3_1 ?_
  case y3_1 => intro W hW; (try subst hW); go_simp; try with_reducible rfl
  simp only [Act.put, List.setIfInBounds_toArray, List.set_cons_zero, List.set_cons_succ]
  refine rg_one rfl rfl ?_; intro K hK; go_simp
  have hS1 : Below w0.heap.size w0 (w0.alloc (.cells #[.slice (some ⟨w.heap.size, 0, none⟩) 32 32, .slice (some ⟨w.heap.size + 1, 0, none⟩) 32 32] 24)).drew := ((Below.refl _ _).alloc (Nat.le_refl _) _).drew
  have hR1 : Rd (w0.alloc (.cells #[.slice (some ⟨w.heap.size, 0, none⟩) 32 32, .slice (some ⟨w.heap.size + 1, 0, none⟩) 32 32] 24)).drew (some ⟨w0.heap.size, 0, none⟩) [.slice (some ⟨w.heap.size, 0, none⟩) 32 32, .slice (some ⟨w.heap.size + 1, 0, none⟩) 32 32] :=
    Rd.of_blk0 (es := []) (by simpa using (Blk.new w0 24 [.slice (some ⟨w.heap.size, 0, none⟩) 32 32, .slice (some ⟨w.heap.size + 1, 0, none⟩) 32 32]).drew)
  refine hK _ _ (fun _ => hS1) ?_; clear hK
  generalize (w0.alloc (.cells #[.slice (some ⟨w.heap.size, 0, none⟩) 32 32, .slice (some ⟨w.heap.size + 1, 0, none⟩) 32 32] 24)).drew = w1 at *
  refine rg_one rfl rfl ?_; intro K hK; go_simp
  refine (rtext 1 (some ⟨w0.heap.size, 0, none⟩) 2 2 _ [k, v] w1 rfl hR1 ((AllRd.cons hsk (AllRd.cons hsv (AllRd.nil _))).below hS1) (by simp) (by have := HK.out; have := HV.out; simp; omega)).mono ?_
  rintro e w2 ⟨v2, rfl, ho2, hw2⟩
  have hS2 : Below w0.heap.size w0 w2 := hS1.trans (hw2.mono hS1.size)
  refine hK _ _ (fun _ => hS2) ?_; clear hK
  refine rg_take (v := ?v3_4) rfl rfl hS2 ?y3_4 ?_
  case y3_4 => intro W hW; (try subst hW); go_simp; try with_reducible rfl
  simp only [Act.put, List.setIfInBounds_toArray, List.set_cons_zero, List.set_cons_succ]
  refine rg_done (by kernel_rfl) ?_
  go_wp2_with fail
  go_ret
  exact ⟨v2, rfl, by simpa using ho2.mono (Nat.le_trans hB0.size hS1.size), hB0.trans (hS2.mono hB0.size)⟩

set_option maxRecDepth 100000 in
theorem rinner_text (k v : List UInt8) (w : World) (hk : k.length = 32) (hv : v.length = 32) :
    Calls Try.prog 32 #[arr8 k, arr8 v] w fun e w' => ∃ u, e = .returned u ∧ OwnB w' w.heap.size 5 u (2 :: (k ++ v)) ∧ Below w.heap.size w w' := by
  have HK := Lib.hid hk
  have HV := Lib.hid hv
  clear hk hv
  unfold arr8
  go_enter Try.func32, Try.ntmps32
  go_wp2_with fail
  generalize hW : (w.alloc (.cells (bvs k).toArray 22)).alloc (.cells (bvs v).toArray 22) = w0
  have hB0 : Below w.heap.size w w0 := by rw [← hW]; exact ((Below.refl _ _).alloc (Nat.le_refl _) _).alloc (by simp) _
  have hbk : Blk w0 w.heap.size 22 (bvs k) := by rw [← hW]; exact (Blk.new _ _ _).alloc _
  have hbv : Blk w0 (w.heap.size + 1) 22 (bvs v) := by
    rw [← hW]
    have := Blk.new (w.alloc (.cells (bvs k).toArray 22)) 22 (bvs v)
    simpa using this
  clear hW
  have hsk : Sl1 w0 (.slice (some ⟨w.heap.size, 0, none⟩) 32 32) k := ⟨_, 32, by rw [HK.out], by rw [HK.out]; omega, Rd.of_blk0 (es := []) (by simpa using hbk)⟩
  have hsv : Sl1 w0 (.slice (some ⟨w.heap.size + 1, 0, none⟩) 32 32) v := ⟨_, 32, by rw [HV.out], by rw [HV.out]; omega, Rd.of_blk0 (es := []) (by simpa using hbv)⟩
  refine rg_begin (Below w0.heap.size w0) [] [2, 3] [0, 1, 2, 3, 4] 0 mixed (by kernel_rfl) (fun _ _ _ _ e hh => ⟨e.symm.trans hh.1, hh.2⟩) ?_
  simp only [pick, List.map_cons, List.map_nil, List.getD_cons_zero, List.getD_cons_succ]
  have hS : (Below w0.heap.size w0) _ := (Below.refl _ _).drew
  refine rg_take (v := ?v4_0) rfl rfl hS ?y4_0 ?_
  case y4_0 => intro W hW; (try subst hW); go_simp; try with_reducible rfl
  simp only [Act.put, List.setIfInBounds_toArray, List.set_cons_zero, List.set_cons_succ]
  refine rg_take (v := ?v4_1) rfl rfl hS ?y4_1 ?_
  case y4_1 => intro W hW; (try subst hW); go_simp; try with_reducible rfl
  simp only [Act.put, List.setIfInBounds_toArray, List.set_cons_zero, List.set_cons_succ]
  refine rg_one rfl rfl ?_; intro K hK; go_simp
  have hS1 : Below w0.heap.size w0 (w0.alloc (.cells #[.slice (some ⟨w.heap.size, 0, none⟩) 32 32, .slice (some ⟨w.heap.size + 1, 0, none⟩) 32 32] 24)).drew := ((Below.refl _ _).alloc (Nat.le_refl _) _).drew
  have hR1 : Rd (w0.alloc (.cells #[.slice (some ⟨w.heap.size, 0, none⟩) 32 32, .slice (some ⟨w.heap.size + 1, 0, none⟩) 32 32] 24)).drew (some ⟨w0.heap.size, 0, none⟩) [.slice (some ⟨w.heap.size, 0, none⟩) 32 32, .slice (some ⟨w.heap.size + 1, 0, none⟩) 32 32] :=
    Rd.of_blk0 (es := []) (by simpa using (Blk.new w0 24 [.slice (some ⟨w.heap.size, 0, none⟩) 32 32, .slice (some ⟨w.heap.size + 1, 0, none⟩) 32 32]).drew)
  refine hK _ _ (fun _ => hS1) ?_; clear hK
  generalize (w0.alloc (.cells #[.slice (some ⟨w.heap.size, 0, none⟩) 32 32, .slice (some ⟨w.heap.size + 1, 0, none⟩) 32 32] 24)).drew = w1 at *
  refine rg_one rfl rfl ?_; intro K hK; go_simp
  refine (rtext 2 (some ⟨w0.heap.size, 0, none⟩) 2 2 _ [k, v] w1 rfl hR1 ((AllRd.cons hsk (AllRd.cons hsv (AllRd.nil _))).below hS1) (by simp) (by have := HK.out; have := HV.out; simp; omega)).mono ?_
  rintro e w2 ⟨v2, rfl, ho2, hw2⟩
  have hS2 : Below w0.heap.size w0 w2 := hS1.trans (hw2.mono hS1.size)
  refine hK _ _ (fun _ => hS2) ?_; clear hK
  refine rg_take (v := ?v4_4) rfl rfl hS2 ?y4_4 ?_
  case y4_4 => intro W hW; (try subst hW); go_simp; try with_reducible rfl
  simp only [Act.put, List.setIfInBounds_toArray, List.set_cons_zero, List.set_cons_succ]
  refine rg_done (by kernel_rfl) ?_
  go_wp2_with fail
  go_ret
  exact ⟨v2, rfl, by simpa using ho2.mono (Nat.le_trans hB0.size hS1.size), hB0.trans (hS2.mono hB0.size)⟩

end Go.Proofs.Ytehbahobkgoapaa
