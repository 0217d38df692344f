/- Contracts of tag's digests and of the reference's. -/
import Derived.Test.YtehbahobkgoapaaWo
import Derived.Test.YtehbahobkgoapaaLa
namespace Go.Proofs.Ytehbahobkgoapaa
open Go Go.RowKit
set_option linter.unusedSimpArgs false
set_option linter.unusedVariables false

def capOf : Value → Nat
  | .slice _ _ c => c
  | _ => 0
theorem sz24 : (Try.prog.info? 24).map (·.size) = some 1 := by kernel_rfl
theorem w24 : ∃ d, Try.prog.underlying 24 = some d ∧ d.isRow = false := ⟨_, Try.underlying24, rfl⟩
theorem exec_load24 {w : World} {a : Act} {o : Oper} (x : Operand) (ho : o.op = .load 24 x) (ad : Addr) (v : Value) (hx : a.eval x = .pointer (some ad)) (hc : w.cell? ad = some v) : (execOp a.eval o).run Try.prog w = .ok (.value v) w := by
  obtain ⟨d, hu, hd⟩ := w24
  exact exec_load_one hu hd x ho ad v hx hc
theorem exec_len30 {w : World} {a : Act} {o : Oper} (x : Operand) (ho : o.op = .call { callee := .builtin .len, args := #[x], argTypes := #[30] }) (A : Option Addr) (n c : Nat) (hx : a.eval x = .slice A n c) :
    (execOp a.eval o).run Try.prog w = .ok (.value (.int .i64 (n : Int))) w := by
  unfold execOp
  simp only [ho, resolve, invoke, builtin, Sem.run_bind, Sem.run_pure, Result.andThen_ok, List.map_toArray, List.map_cons, List.map_nil, hx]
  go_simp
theorem one_lft8 {w : World} {g : Nat} (x : UInt8) (hg : g < w.heap.size) : Lft (· = g) (w.alloc (.cells #[.int .u8 (x.toNat : Int)] 5)) (some ⟨w.heap.size, 0, none⟩) 1 1 [x] := one_lft x _ rfl hg

set_option maxRecDepth 100000 in
set_option maxHeartbeats 4000000 in
theorem tagof_any (t : UInt8) (A : Option Addr) (n c : Nat) (vs : List Value) (ls : List (List UInt8)) (w : World) (hl : ls.length = n) (hr : Rd w A vs) (ha : AllRd w vs ls) (hmx : ∀ (i : Nat) (v : Value), vs[i]? = some v → capOf v ≤ maxLen)
    (hn : n ≤ 1099511627776) (hb : ls.flatten.length + 1 ≤ 140737488355328) :
    Calls Try.prog 88 #[.int .u8 (t.toNat : Int), .slice A n c] w fun e w' => e = .returned (arr8 (shaL (t :: ls.flatten))) ∧ Below w.heap.size w w' := by
  have HL := Lib.hid hl
  have HM := Lib.hid hmx
  have hbz : Blk (w.alloc (.cells (bvs (zb 32)).toArray 25)) w.heap.size 25 (bvs (zb 32)) := Blk.new _ _ _
  have hw0 : Below w.heap.size w (w.alloc (.cells (bvs (zb 32)).toArray 25)) := (Below.refl _ _).alloc (Nat.le_refl _) _
  have C1 := fun u => Lib.hid (new_state u)
  have HRL : Hid ((shaL (t :: ls.flatten)).length = 32) := Lib.hid (shaL_length _)
  have C3 := fun (g : Nat) (u : World) (h : St u g (t :: ls.flatten)) => Lib.hid (sum_state g (t :: ls.flatten) u h (by simp only [List.length_cons]; omega))
  clear hl hmx
  generalize shaL (t :: ls.flatten) = res at *
  unfold arr8 at *
  go_enter Try.func88, Try.ntmps88
  go_upto_region 1 with fail
  generalize hW : World.alloc w _ = w0
  have h3 : Blk w0 w.heap.size 25 (bvs (zb 32)) ∧ Below w.heap.size w w0 := by rw [← hW]; exact ⟨hbz, hw0⟩
  clear hW hbz hw0
  obtain ⟨hbz, hw0⟩ := h3
  have hz := hbz.lt
  go_upto_region 2 with (first
    | (go_at_call 83; with_reducible refine (C1 _).out.mono ?_; rintro e w1 ⟨g, rfl, hg, hs1, hw1⟩))
  have hg1 := hs1.lt
  have hs1a : St (w1.alloc (.cells #[.int .u8 (t.toNat : Int)] 5)) g [] := hs1.below ((Below.refl _ _).alloc (Nat.le_refl _) _)
  have W1 := Lib.hid (write_one g [] (some ⟨w1.heap.size, 0, none⟩) 1 t _ hs1a (one_lft8 t hg1) (by simp))
  refine wp_region_lit ?_
  refine wpList_yield rfl _ (exec_move _ rfl) ?_
  simp only [Act.put, Act.eval, Array.getD_eq_getD_getElem?, List.getElem?_toArray, List.getElem?_cons_succ, List.getElem?_cons_zero, Option.getD_some, List.setIfInBounds_toArray, List.set_cons_zero, List.set_cons_succ]
  refine wpList_yield rfl _ (exec_move _ rfl) ?_
  simp only [Act.put, Act.eval, Array.getD_eq_getD_getElem?, List.getElem?_toArray, List.getElem?_cons_succ, List.getElem?_cons_zero, Option.getD_some, List.setIfInBounds_toArray, List.set_cons_zero, List.set_cons_succ]
  refine wpList_plain rfl fun K hK => ?_; go_simp
  refine hK _ _ ?_; clear hK
  (try simp only [Act.put, List.setIfInBounds_toArray, List.set_cons_zero, List.set_cons_succ])
  refine wpList_plain rfl fun K hK => ?_; go_simp
  with_reducible refine W1.out.mono ?_
  rintro e w2 ⟨rfl, hs2, hf2⟩
  refine hK _ _ ?_; clear hK
  (try simp only [Act.put, List.setIfInBounds_toArray, List.set_cons_zero, List.set_cons_succ])
  refine wpList_nil ?_
  rw [List.nil_append] at hs2
  have hb1 : Below w.heap.size w (w1.alloc (.cells #[.int .u8 (t.toNat : Int)] 5)) := (hw0.trans (hw1.mono hw0.size)).alloc (by have := hw1.size; omega) _
  have hgw : w.heap.size < g := by omega
  have hb2 : Below w.heap.size w w2 := hb1.trans (fr_below hf2 (fun k e => by rw [e]; omega) hb1.size)
  have hz2 : Blk w2 w.heap.size 25 (bvs (zb 32)) := ((hbz.below hw1 hz).alloc _).fr hf2 (fun e => by omega)
  have hs2' : St w2 g (t :: (ls.take 0).flatten) := by simpa using hs2
  clear W1 hs1 hs1a hf2 hb1 hg1 hbz hw0 hz hw1 C1 hs2
  go_upto_region 3 with fail
  refine wp_region_lit ?_
  refine wpList_yield rfl _ (exec_move _ rfl) ?_
  simp only [Act.put, Act.eval, Array.getD_eq_getD_getElem?, List.getElem?_toArray, List.getElem?_cons_succ, List.getElem?_cons_zero, Option.getD_some, List.setIfInBounds_toArray, List.set_cons_zero, List.set_cons_succ]
  refine wpList_yield rfl _ (exec_len30 _ rfl A n c rfl) ?_
  simp only [Act.put, List.setIfInBounds_toArray, List.set_cons_zero, List.set_cons_succ]
  refine wpList_yield rfl _ (exec_move _ rfl) ?_
  simp only [Act.put, Act.eval, Array.getD_eq_getD_getElem?, List.getElem?_toArray, List.getElem?_cons_succ, List.getElem?_cons_zero, Option.getD_some, List.setIfInBounds_toArray, List.set_cons_zero, List.set_cons_succ]
  refine wpList_nil ?_
  go_wp2_with fail
  go_loopw [15] (fun i wr => ∃ k : Nat, k ≤ n ∧ i = .int .i64 (k : Int) ∧ St wr g (t :: (ls.take k).flatten) ∧ Blk wr w.heap.size 25 (bvs (zb 32)) ∧ Below w.heap.size w wr) (fun i _ => n - (intOf i).toNat)
  case atStart => exact ⟨0, by omega, by go_num, hs2', hz2, hb2⟩
  case round =>
    clear hs2' hz2 hb2
    obtain ⟨k, hk, rfl, hs2, hz2, hb2⟩ := hrel
    by_cases hlt : k < n
    · have hltz : (k : Int) < (n : Int) := by omega
      have hkl : k < ls.length := by rw [HL.out]; exact hlt
      obtain ⟨v, hv⟩ : ∃ v, vs[k]? = some v := ⟨_, List.getElem?_eq_getElem (by have := ha.1; omega)⟩
      obtain ⟨ad, rfl, hcc⟩ := hr (by have := ha.1; omega)
      have hc := Lib.hid ((hb2.cell (World.block_lt_of_cell? w _ (hcc k v hv))).trans (hcc k v hv))
      obtain ⟨A1, d1, rfl, hd1, hrd⟩ := ha.2 k v ls[k] hv (List.getElem?_eq_getElem hkl)
      have hlen := flatten_take_len ls k hkl
      have HF := Lib.hid (flatten_take_succ ls k hkl)
      have hmd : d1 ≤ maxLen := HM.out k _ hv
      have W2 := Lib.hid (write_state g (t :: (ls.take k).flatten) A1 ls[k].length d1 ls[k] wr hs2 rfl (fun h0 => rd_lft hrd rfl hd1 hmd h0 hb2 (Nat.le_of_lt hgw)) (by simp only [List.length_cons]; omega))
      go_upto_region 5 with fail
      refine wp_region_lit ?_
      refine wpList_yield rfl _ (exec_sia Try.underlying30 sz24 _ _ rfl ad n c k _ rfl rfl hlt) ?_
      simp only [Act.put, List.setIfInBounds_toArray, List.set_cons_zero, List.set_cons_succ]
      refine wpList_yield rfl _ (exec_load24 _ rfl _ _ rfl hc.out) ?_
      simp only [Act.put, List.setIfInBounds_toArray, List.set_cons_zero, List.set_cons_succ]
      refine wpList_yield rfl _ (exec_assign _ rfl) ?_
      simp only [Act.put, Act.eval, Array.getD_eq_getD_getElem?, List.getElem?_toArray, List.getElem?_cons_succ, List.getElem?_cons_zero, Option.getD_some, List.setIfInBounds_toArray, List.set_cons_zero, List.set_cons_succ]
      refine wpList_nil ?_
      go_wp2_with (first
        | (go_at_call 84; with_reducible refine W2.out.mono ?_; rintro e w3 ⟨rfl, hs3, hf3⟩))
      go_roundw
      case rel =>
        refine ⟨k + 1, by omega, by go_num, ?_, hz2.fr hf3 (fun e => by omega), hb2.trans (fr_below hf3 (fun k e => by rw [e]; omega) hb2.size)⟩
        rw [HF.out]
        exact hs3
      case measure => simp only [intOf]; omega
    · obtain rfl : k = n := by omega
      have hs3 : St wr g (t :: ls.flatten) := by rwa [List.take_of_length_le (by rw [HL.out]; exact Nat.le_refl _)] at hs2
      go_upto_region 8 with fail
      refine wp_region_lit ?_
      refine wpList_yield rfl _ (exec_move _ rfl) ?_
      simp only [Act.put, Act.eval, Array.getD_eq_getD_getElem?, List.getElem?_toArray, List.getElem?_cons_succ, List.getElem?_cons_zero, Option.getD_some, List.setIfInBounds_toArray, List.set_cons_zero, List.set_cons_succ]
      refine wpList_plain rfl fun K hK => ?_; go_simp
      with_reducible refine (C3 g wr hs3).out.mono ?_
      rintro e w3 ⟨rfl, hw3⟩
      refine hK _ _ ?_; clear hK
      (try simp only [Act.put, List.setIfInBounds_toArray, List.set_cons_zero, List.set_cons_succ])
      refine wpList_store_at at25w.i rfl (.tmp 4) (.tmp 24) rfl w.heap.size 0 25 (bvs (zb 32)) (bvs res) rfl rfl (hz2.below hw3 hz2.lt) (by rw [bvs_length]; exact HRL.out) (by rw [bvs_length, zb_length]; omega) (bvs_one _) ?_
      intro w4 hb4 hg4 hs4
      (try simp only [Act.put, List.setIfInBounds_toArray, List.set_cons_zero, List.set_cons_succ])
      refine wpList_nil ?_
      go_wp2_with fail
      (try simp only [Exit.inBlock, Exit.then])
      rw [splice_all _ _ (by rw [bvs_length, bvs_length, zb_length]; exact HRL.out.symm)] at hb4
      refine bodyPost_ret (ret_cell rfl at25w _ _ w.heap.size 25 (bvs res) rfl hb4 (by rw [bvs_length]; exact HRL.out)) rfl ?_
      exact ⟨rfl, (hb2.trans (hw3.mono hb2.size)).grown hg4 (by have := hb2.size; have := hw3.size; omega) (by intro k hk; cases hk; omega)⟩

theorem tagof_is (t : UInt8) (z : Int) (hz : (t.toNat : Int) = z) (A : Option Addr) (n c : Nat) (vs : List Value) (ls : List (List UInt8)) (w : World) (hl : ls.length = n) (hr : Rd w A vs) (ha : AllRd w vs ls) (hmx : ∀ (i : Nat) (v : Value), vs[i]? = some v → capOf v ≤ maxLen)
    (hn : n ≤ 1099511627776) (hb : ls.flatten.length + 1 ≤ 140737488355328) :
    Calls Try.prog 88 #[.int .u8 z, .slice A n c] w fun e w' => e = .returned (arr8 (shaL (t :: ls.flatten))) ∧ Below w.heap.size w w' := by
  subst hz
  exact tagof_any t A n c vs ls w hl hr ha hmx hn hb
set_option maxRecDepth 100000 in
set_option maxHeartbeats 1000000 in
theorem empty_any (w : World) : Calls Try.prog 90 #[] w fun e w' => e = .returned (arr8 (shaL [0])) ∧ Below w.heap.size w w' := by
  have hbz : Blk (w.alloc (.cells (bvs (zb 32)).toArray 25)) w.heap.size 25 (bvs (zb 32)) := Blk.new _ _ _
  have hw0 : Below w.heap.size w (w.alloc (.cells (bvs (zb 32)).toArray 25)) := (Below.refl _ _).alloc (Nat.le_refl _) _
  have C := fun u => Lib.hid (tagof_is 0 0 rfl none 0 0 [] [] u rfl (Rd.nil _ _) (AllRd.nil _) (fun i v h => by simp at h) (by omega) (by simp))
  have HRL : Hid ((shaL [0]).length = 32) := Lib.hid (shaL_length _)
  rw [show (0 : UInt8) :: ([] : List (List UInt8)).flatten = [0] from rfl] at C
  generalize shaL [0] = res at *
  unfold arr8 at *
  go_enter Try.func90, Try.ntmps90
  go_upto_region 1 with fail
  refine wp_region_lit ?_
  refine wpList_plain rfl fun K hK => ?_; go_simp
  refine (C _).out.mono ?_
  rintro e w3 ⟨rfl, hw3⟩
  refine hK _ _ ?_; clear hK
  (try simp only [Act.put, List.setIfInBounds_toArray, List.set_cons_zero, List.set_cons_succ])
  refine wpList_store_at at25w.i rfl (.tmp 0) (.tmp 1) rfl w.heap.size 0 25 (bvs (zb 32)) (bvs res) rfl rfl (hbz.below hw3 hbz.lt) (by rw [bvs_length]; exact HRL.out) (by rw [bvs_length, zb_length]; omega) (bvs_one _) ?_
  intro w4 hb4 hg4 hs4
  (try simp only [Act.put, List.setIfInBounds_toArray, List.set_cons_zero, List.set_cons_succ])
  refine wpList_nil ?_
  go_wp2_with fail
  (try simp only [Exit.inBlock, Exit.then])
  rw [splice_all _ _ (by rw [bvs_length, bvs_length, zb_length]; exact HRL.out.symm)] at hb4
  refine bodyPost_ret (ret_cell rfl at25w _ _ w.heap.size 25 (bvs res) rfl hb4 (by rw [bvs_length]; exact HRL.out)) rfl ?_
  exact ⟨rfl, (hw0.trans (hw3.mono hw0.size)).grown hg4 (Nat.le_trans hw0.size hw3.size) (by intro k hk; cases hk; omega)⟩

set_option maxRecDepth 100000 in
set_option maxHeartbeats 1000000 in
theorem value_any (A : Option Addr) (n c : Nat) (l : List UInt8) (w : World) (hr : Rd w A (bvs l)) (hl : l.length = n) (hcap : n ≤ c) (hmax : c ≤ maxLen) (hn : n ≤ 140737488351232) :
    Calls Try.prog 92 #[.slice A n c] w fun e w' => e = .returned (arr8 (shaL (3 :: l))) ∧ Below w.heap.size w w' := by
  subst hl
  have hbz : Blk ((w.alloc (.cells (bvs (zb 32)).toArray 25)).alloc (.cells #[.slice A l.length c] 24)) w.heap.size 25 (bvs (zb 32)) := (Blk.new _ _ _).alloc _
  have hw0 : Below w.heap.size w ((w.alloc (.cells (bvs (zb 32)).toArray 25)).alloc (.cells #[.slice A l.length c] 24)) := ((Below.refl _ _).alloc (Nat.le_refl _) _).alloc (by simp) _
  have hR : Rd ((w.alloc (.cells (bvs (zb 32)).toArray 25)).alloc (.cells #[.slice A l.length c] 24)) (some ⟨w.heap.size + 1, 0, none⟩) [.slice A l.length c] := by
    have := Rd.one_blk (Blk.new (w.alloc (.cells (bvs (zb 32)).toArray 25)) 24 [.slice A l.length c])
    rwa [show (w.alloc (.cells (bvs (zb 32)).toArray 25)).heap.size = w.heap.size + 1 by simp] at this
  have C := Lib.hid (tagof_is 3 3 rfl (some ⟨w.heap.size + 1, 0, none⟩) 1 1 [.slice A l.length c] [l] _ rfl hR (AllRd.cons ⟨A, c, rfl, hcap, (hr.alloc _).alloc _⟩ (AllRd.nil _)) (fun i v h => by
    cases i with
    | zero => cases h; exact hmax
    | succ i => simp at h) (by omega) (by simp; omega))
  have HRL : Hid ((shaL (3 :: l)).length = 32) := Lib.hid (shaL_length _)
  rw [show (3 : UInt8) :: [l].flatten = 3 :: l by simp] at C
  generalize shaL (3 :: l) = res at *
  unfold arr8 at *
  go_enter Try.func92, Try.ntmps92
  go_upto_region 1 with fail
  refine wp_region_lit ?_
  refine wpList_yield rfl _ (exec_move _ rfl) ?_
  simp only [Act.put, Act.eval, Array.getD_eq_getD_getElem?, List.getElem?_toArray, List.getElem?_cons_succ, List.getElem?_cons_zero, Option.getD_some, List.setIfInBounds_toArray, List.set_cons_zero, List.set_cons_succ]
  refine wpList_plain rfl fun K hK => ?_; go_simp
  refine hK _ _ ?_; clear hK
  (try simp only [Act.put, List.setIfInBounds_toArray, List.set_cons_zero, List.set_cons_succ])
  refine wpList_plain rfl fun K hK => ?_; go_simp
  refine C.out.mono ?_
  rintro e w3 ⟨rfl, hw3⟩
  refine hK _ _ ?_; clear hK
  (try simp only [Act.put, List.setIfInBounds_toArray, List.set_cons_zero, List.set_cons_succ])
  refine wpList_store_at at25w.i rfl (.tmp 2) (.tmp 5) rfl w.heap.size 0 25 (bvs (zb 32)) (bvs res) rfl rfl (hbz.below hw3 hbz.lt) (by rw [bvs_length]; exact HRL.out) (by rw [bvs_length, zb_length]; omega) (bvs_one _) ?_
  intro w4 hb4 hg4 hs4
  (try simp only [Act.put, List.setIfInBounds_toArray, List.set_cons_zero, List.set_cons_succ])
  refine wpList_nil ?_
  go_wp2_with fail
  (try simp only [Exit.inBlock, Exit.then])
  rw [splice_all _ _ (by rw [bvs_length, bvs_length, zb_length]; exact HRL.out.symm)] at hb4
  refine bodyPost_ret (ret_cell rfl at25w _ _ w.heap.size 25 (bvs res) rfl hb4 (by rw [bvs_length]; exact HRL.out)) rfl ?_
  exact ⟨rfl, (hw0.trans (hw3.mono hw0.size)).grown hg4 (Nat.le_trans hw0.size hw3.size) (by intro k hk; cases hk; omega)⟩
theorem ia23 : IA Try.prog 23 32 := ⟨⟨_, Try.underlying23, by kernel_rfl⟩⟩
/-- Two arrays of 32 bytes in blocks, and the slices of them in a row. -/
theorem two_slices (u : World) (k v : List UInt8) (tk tv : TypeId) (g h : Nat) (hk : Blk u g tk (bvs k)) (hv : Blk u h tv (bvs v)) (lk : k.length = 32) (lv : v.length = 32) :
    Rd (u.alloc (.cells #[.slice (some ⟨g, 0, none⟩) 32 32, .slice (some ⟨h, 0, none⟩) 32 32] 24)) (some ⟨u.heap.size, 0, none⟩) [.slice (some ⟨g, 0, none⟩) 32 32, .slice (some ⟨h, 0, none⟩) 32 32] ∧
    AllRd (u.alloc (.cells #[.slice (some ⟨g, 0, none⟩) 32 32, .slice (some ⟨h, 0, none⟩) 32 32] 24)) [.slice (some ⟨g, 0, none⟩) 32 32, .slice (some ⟨h, 0, none⟩) 32 32] [k, v] ∧
    (∀ (i : Nat) (x : Value), [Value.slice (some ⟨g, 0, none⟩) 32 32, .slice (some ⟨h, 0, none⟩) 32 32][i]? = some x → capOf x ≤ maxLen) := by
  refine ⟨Rd.of_blk0 (es := []) (by simpa using Blk.new u 24 [.slice (some ⟨g, 0, none⟩) 32 32, .slice (some ⟨h, 0, none⟩) 32 32]), AllRd.cons ⟨_, 32, by rw [lk], by omega, ?_⟩ (AllRd.cons ⟨_, 32, by rw [lv], by omega, ?_⟩ (AllRd.nil _)), ?_⟩
  · exact (Rd.of_blk0 (es := []) (by simpa using hk)).alloc _
  · exact (Rd.of_blk0 (es := []) (by simpa using hv)).alloc _
  · intro i x hx
    have hm : (32 : Nat) ≤ maxLen := by unfold maxLen; omega
    match i, hx with
    | 0, hx => cases hx; exact hm
    | 1, hx => cases hx; exact hm
    | i + 2, hx => simp at hx

set_option maxRecDepth 100000 in
set_option maxHeartbeats 2000000 in
theorem leaf_any (k v : List UInt8) (w : World) (lk : k.length = 32) (lv : v.length = 32) :
    Calls Try.prog 94 #[arr8 k, arr8 v] w fun e w' => e = .returned (arr8 (shaL (1 :: (k ++ v)))) ∧ Below w.heap.size w w' := by
  have b1 : Blk (w.alloc (.cells (bvs k).toArray 23)) w.heap.size 23 (bvs k) := Blk.new _ _ _
  have b2 : Blk ((w.alloc (.cells (bvs k).toArray 23)).alloc (.cells (bvs v).toArray 25)) (w.heap.size + 1) 25 (bvs v) := by
    have := Blk.new (w.alloc (.cells (bvs k).toArray 23)) 25 (bvs v)
    rwa [show (w.alloc (.cells (bvs k).toArray 23)).heap.size = w.heap.size + 1 by simp] at this
  have b3 : Blk (((w.alloc (.cells (bvs k).toArray 23)).alloc (.cells (bvs v).toArray 25)).alloc (.cells (bvs (zb 32)).toArray 25)) (w.heap.size + 2) 25 (bvs (zb 32)) := by
    have := Blk.new ((w.alloc (.cells (bvs k).toArray 23)).alloc (.cells (bvs v).toArray 25)) 25 (bvs (zb 32))
    rwa [show ((w.alloc (.cells (bvs k).toArray 23)).alloc (.cells (bvs v).toArray 25)).heap.size = w.heap.size + 2 by simp] at this
  have hall := And.intro ((b1.alloc (.cells (bvs v).toArray 25)).alloc (.cells (bvs (zb 32)).toArray 25)) (And.intro (b2.alloc (.cells (bvs (zb 32)).toArray 25)) (And.intro b3
    ((((Below.refl w.heap.size w).alloc (Nat.le_refl _) (.cells (bvs k).toArray 23)).alloc (by simp) (.cells (bvs v).toArray 25)).alloc (by simp; omega) (.cells (bvs (zb 32)).toArray 25))))
  clear b1 b2 b3
  have C := fun (u : World) (A : Option Addr) (vs : List Value) (hr : Rd u A vs) (ha : AllRd u vs [k, v]) (hm : ∀ (i : Nat) (x : Value), vs[i]? = some x → capOf x ≤ maxLen) => Lib.hid (tagof_is 1 1 rfl A 2 2 vs [k, v] u rfl hr ha hm (by omega) (by simp [lk, lv]))
  have HRL : Hid ((shaL (1 :: (k ++ v))).length = 32) := Lib.hid (shaL_length _)
  rw [show (1 : UInt8) :: [k, v].flatten = 1 :: (k ++ v) by simp] at C
  generalize shaL (1 :: (k ++ v)) = res at *
  unfold arr8 at *
  go_enter Try.func94, Try.ntmps94
  go_upto_region 1 with fail
  generalize hW : World.alloc (World.alloc (World.alloc w _) _) _ = w0
  have h3 : Blk w0 w.heap.size 23 (bvs k) ∧ Blk w0 (w.heap.size + 1) 25 (bvs v) ∧ Blk w0 (w.heap.size + 2) 25 (bvs (zb 32)) ∧ Below w.heap.size w w0 := by rw [← hW]; exact hall
  clear hall hW
  obtain ⟨c1, c2, c3, c4⟩ := h3
  have T := two_slices w0.drew k v 23 25 w.heap.size (w.heap.size + 1) c1.drew c2.drew lk lv
  have T2 := Lib.hid T
  clear T
  refine rg_begin (Any) [4] [2, 3, 4] [0, 1, 2, 3, 4] 0 mixed (by kernel_rfl) (fun _ _ _ _ e hh => ⟨e.symm.trans hh.1, hh.2⟩) ?_
  simp only [pick, List.map_cons, List.map_nil, List.getD_cons_zero, List.getD_cons_succ]
  have hS : (Any) _ := any_at w0.drew
  refine rg_take rfl rfl hS (fun W hW => exec_arr_all ia23 _ rfl w.heap.size 0 rfl) ?_
  simp only [Act.put, List.setIfInBounds_toArray, List.set_cons_zero, List.set_cons_succ]
  refine rg_take rfl rfl hS (fun W hW => exec_arr_all ia25 _ rfl (w.heap.size + 1) 0 rfl) ?_
  simp only [Act.put, List.setIfInBounds_toArray, List.set_cons_zero, List.set_cons_succ]
  refine rg_one rfl rfl ?_; intro K hK; go_simp
  have hS1 := any_at (w0.drew.alloc (.cells #[.slice (some ⟨w.heap.size, 0, none⟩) 32 32, .slice (some ⟨w.heap.size + 1, 0, none⟩) 32 32] 24))
  refine hK _ _ (fun _ => hS1) ?_; clear hK
  refine rg_one rfl rfl ?_; intro K hK; go_simp
  refine (C _ _ _ T2.out.1 T2.out.2.1 T2.out.2.2).out.mono ?_
  rintro e w3 ⟨rfl, hw3⟩
  have hS2 := any_at w3
  refine hK _ _ (fun _ => hS2) ?_; clear hK
  refine rg_one rfl rfl ?_; intro K hK
  refine wp_store_at at25w.i (.tmp 4) (.tmp 8) rfl (w.heap.size + 2) 0 25 (bvs (zb 32)) (bvs res) rfl rfl ((c3.drew.alloc _).below hw3 (c3.drew.alloc _).lt) (by rw [bvs_length]; exact HRL.out) (by rw [bvs_length, zb_length]; omega) (bvs_one _) ?_
  intro w4 hb4 hg4 hs4
  refine hK _ _ (fun h => by cases h) ?_; clear hK
  refine rg_done (by kernel_rfl) ?_
  have c5 : Below w.heap.size w (w0.drew.alloc (.cells #[.slice (some ⟨w.heap.size, 0, none⟩) 32 32, .slice (some ⟨w.heap.size + 1, 0, none⟩) 32 32] 24)) := c4.drew.alloc (by have := c4.size; simpa using this) _
  go_wp2_with fail
  (try simp only [Exit.inBlock, Exit.then])
  rw [splice_all _ _ (by rw [bvs_length, bvs_length, zb_length]; exact HRL.out.symm)] at hb4
  refine bodyPost_ret (ret_cell rfl at25w _ _ (w.heap.size + 2) 25 (bvs res) rfl hb4 (by rw [bvs_length]; exact HRL.out)) rfl ?_
  exact ⟨rfl, (c5.trans (hw3.mono c5.size)).grown hg4 (Nat.le_trans c5.size hw3.size) (by intro k hk; cases hk; omega)⟩

set_option maxRecDepth 100000 in
set_option maxHeartbeats 2000000 in
theorem inner_any (k v : List UInt8) (w : World) (lk : k.length = 32) (lv : v.length = 32) :
    Calls Try.prog 96 #[arr8 k, arr8 v] w fun e w' => e = .returned (arr8 (shaL (2 :: (k ++ v)))) ∧ Below w.heap.size w w' := by
  have b1 : Blk (w.alloc (.cells (bvs k).toArray 25)) w.heap.size 25 (bvs k) := Blk.new _ _ _
  have b2 : Blk ((w.alloc (.cells (bvs k).toArray 25)).alloc (.cells (bvs v).toArray 25)) (w.heap.size + 1) 25 (bvs v) := by
    have := Blk.new (w.alloc (.cells (bvs k).toArray 25)) 25 (bvs v)
    rwa [show (w.alloc (.cells (bvs k).toArray 25)).heap.size = w.heap.size + 1 by simp] at this
  have b3 : Blk (((w.alloc (.cells (bvs k).toArray 25)).alloc (.cells (bvs v).toArray 25)).alloc (.cells (bvs (zb 32)).toArray 25)) (w.heap.size + 2) 25 (bvs (zb 32)) := by
    have := Blk.new ((w.alloc (.cells (bvs k).toArray 25)).alloc (.cells (bvs v).toArray 25)) 25 (bvs (zb 32))
    rwa [show ((w.alloc (.cells (bvs k).toArray 25)).alloc (.cells (bvs v).toArray 25)).heap.size = w.heap.size + 2 by simp] at this
  have hall := And.intro ((b1.alloc (.cells (bvs v).toArray 25)).alloc (.cells (bvs (zb 32)).toArray 25)) (And.intro (b2.alloc (.cells (bvs (zb 32)).toArray 25)) (And.intro b3
    ((((Below.refl w.heap.size w).alloc (Nat.le_refl _) (.cells (bvs k).toArray 25)).alloc (by simp) (.cells (bvs v).toArray 25)).alloc (by simp; omega) (.cells (bvs (zb 32)).toArray 25))))
  clear b1 b2 b3
  have C := fun (u : World) (A : Option Addr) (vs : List Value) (hr : Rd u A vs) (ha : AllRd u vs [k, v]) (hm : ∀ (i : Nat) (x : Value), vs[i]? = some x → capOf x ≤ maxLen) => Lib.hid (tagof_is 2 2 rfl A 2 2 vs [k, v] u rfl hr ha hm (by omega) (by simp [lk, lv]))
  have HRL : Hid ((shaL (2 :: (k ++ v))).length = 32) := Lib.hid (shaL_length _)
  rw [show (2 : UInt8) :: [k, v].flatten = 2 :: (k ++ v) by simp] at C
  generalize shaL (2 :: (k ++ v)) = res at *
  unfold arr8 at *
  go_enter Try.func96, Try.ntmps96
  go_upto_region 1 with fail
  generalize hW : World.alloc (World.alloc (World.alloc w _) _) _ = w0
  have h3 : Blk w0 w.heap.size 25 (bvs k) ∧ Blk w0 (w.heap.size + 1) 25 (bvs v) ∧ Blk w0 (w.heap.size + 2) 25 (bvs (zb 32)) ∧ Below w.heap.size w w0 := by rw [← hW]; exact hall
  clear hall hW
  obtain ⟨c1, c2, c3, c4⟩ := h3
  have T := two_slices w0.drew k v 25 25 w.heap.size (w.heap.size + 1) c1.drew c2.drew lk lv
  have T2 := Lib.hid T
  clear T
  refine rg_begin (Any) [4] [2, 3, 4] [0, 1, 2, 3, 4] 0 mixed (by kernel_rfl) (fun _ _ _ _ e hh => ⟨e.symm.trans hh.1, hh.2⟩) ?_
  simp only [pick, List.map_cons, List.map_nil, List.getD_cons_zero, List.getD_cons_succ]
  have hS : (Any) _ := any_at w0.drew
  refine rg_take rfl rfl hS (fun W hW => exec_arr_all ia25 _ rfl w.heap.size 0 rfl) ?_
  simp only [Act.put, List.setIfInBounds_toArray, List.set_cons_zero, List.set_cons_succ]
  refine rg_take rfl rfl hS (fun W hW => exec_arr_all ia25 _ rfl (w.heap.size + 1) 0 rfl) ?_
  simp only [Act.put, List.setIfInBounds_toArray, List.set_cons_zero, List.set_cons_succ]
  refine rg_one rfl rfl ?_; intro K hK; go_simp
  have hS1 := any_at (w0.drew.alloc (.cells #[.slice (some ⟨w.heap.size, 0, none⟩) 32 32, .slice (some ⟨w.heap.size + 1, 0, none⟩) 32 32] 24))
  refine hK _ _ (fun _ => hS1) ?_; clear hK
  refine rg_one rfl rfl ?_; intro K hK; go_simp
  refine (C _ _ _ T2.out.1 T2.out.2.1 T2.out.2.2).out.mono ?_
  rintro e w3 ⟨rfl, hw3⟩
  have hS2 := any_at w3
  refine hK _ _ (fun _ => hS2) ?_; clear hK
  refine rg_one rfl rfl ?_; intro K hK
  refine wp_store_at at25w.i (.tmp 4) (.tmp 8) rfl (w.heap.size + 2) 0 25 (bvs (zb 32)) (bvs res) rfl rfl ((c3.drew.alloc _).below hw3 (c3.drew.alloc _).lt) (by rw [bvs_length]; exact HRL.out) (by rw [bvs_length, zb_length]; omega) (bvs_one _) ?_
  intro w4 hb4 hg4 hs4
  refine hK _ _ (fun h => by cases h) ?_; clear hK
  refine rg_done (by kernel_rfl) ?_
  have c5 : Below w.heap.size w (w0.drew.alloc (.cells #[.slice (some ⟨w.heap.size, 0, none⟩) 32 32, .slice (some ⟨w.heap.size + 1, 0, none⟩) 32 32] 24)) := c4.drew.alloc (by have := c4.size; simpa using this) _
  go_wp2_with fail
  (try simp only [Exit.inBlock, Exit.then])
  rw [splice_all _ _ (by rw [bvs_length, bvs_length, zb_length]; exact HRL.out.symm)] at hb4
  refine bodyPost_ret (ret_cell rfl at25w _ _ (w.heap.size + 2) 25 (bvs res) rfl hb4 (by rw [bvs_length]; exact HRL.out)) rfl ?_
  exact ⟨rfl, (c5.trans (hw3.mono c5.size)).grown hg4 (Nat.le_trans c5.size hw3.size) (by intro k hk; cases hk; omega)⟩
end Go.Proofs.Ytehbahobkgoapaa
