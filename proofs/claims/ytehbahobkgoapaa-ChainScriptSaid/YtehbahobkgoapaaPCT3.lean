import Derived.Deep.AppendLies
import Derived.Great.BuildSlice
import Derived.Great.FillDense
import Derived.Lib.SlBytesConst
import Derived.Lib.SliceRun
import Derived.Test.YtehbahobkgoapaaPCT2
namespace Go.Proofs.Ytehbahobkgoapaa
open Go Go.RowKit
set_option linter.unusedSimpArgs false
set_option linter.unusedVariables false
def firstH : List UInt8 := shaL [4]
def nextH (h r : List UInt8) : List UInt8 := shaL (5 :: (h ++ r))
def foldH (h : List UInt8) (ls : List (List UInt8)) : List UInt8 := ls.foldl nextH h
theorem firstH_length : firstH.length = 32 := shaL_length _
theorem nextH_length (h r : List UInt8) : (nextH h r).length = 32 := shaL_length _
theorem foldH_length (h : List UInt8) (ls : List (List UInt8)) (hh : h.length = 32) : (foldH h ls).length = 32 := by
  induction ls generalizing h with
  | nil => exact hh
  | cons r ls ih => exact ih _ (nextH_length _ _)
theorem foldH_take (h : List UInt8) (ls : List (List UInt8)) (k : Nat) (hk : k < ls.length) : foldH h (ls.take (k + 1)) = nextH (foldH h (ls.take k)) (ls.getD k []) := by
  rw [List.take_succ_eq_append_getElem hk]
  unfold foldH
  rw [List.foldl_append, List.getD_eq_getElem?_getD, List.getElem?_eq_getElem hk]
  rfl
theorem flat32_len (ls : List (List UInt8)) (h : ∀ l ∈ ls, l.length = 32) : ls.flatten.length = 32 * ls.length := by
  induction ls with
  | nil => rfl
  | cons l ls ih =>
    rw [List.flatten_cons, List.length_append, h l (by simp), ih (fun x hx => h x (by simp [hx])), List.length_cons]
    omega
theorem flat32_get (ls : List (List UInt8)) (h : ∀ l ∈ ls, l.length = 32) (i : Nat) (hi : i < ls.length) : (ls.flatten.drop (i * 32)).take 32 = ls.getD i [] := by
  induction ls generalizing i with
  | nil => simp at hi
  | cons l ls ih =>
    have hl := h l (by simp)
    rw [List.flatten_cons]
    cases i with
    | zero => rw [Nat.zero_mul, List.drop_zero, List.take_append_of_le_length (by omega), List.take_of_length_le (by omega)]; rfl
    | succ i =>
      rw [List.drop_append, List.drop_eq_nil_of_le (by omega), List.nil_append, show (i + 1) * 32 - l.length = i * 32 by omega, ih (fun x hx => h x (by simp [hx])) i (by simpa using hi)]
      rfl
theorem flat32_take (ls : List (List UInt8)) (h : ∀ l ∈ ls, l.length = 32) (k : Nat) (hk : k ≤ ls.length) : ls.flatten.take (32 * k) = (ls.take k).flatten := by
  induction ls generalizing k with
  | nil => simp
  | cons l ls ih =>
    have hl := h l (by simp)
    cases k with
    | zero => simp
    | succ k =>
      rw [List.flatten_cons, List.take_succ_cons, List.flatten_cons, List.take_append, List.take_of_length_le (by omega), show 32 * (k + 1) - l.length = 32 * k by omega, ih (fun x hx => h x (by simp [hx])) k (by simpa using hk)]
/-- A list of digests that can be read. -/
structure Hl (w : World) (A : Option Addr) (n c : Nat) (ls : List (List UInt8)) : Prop where
  len : ls.length = n
  cap : n ≤ c
  max : c ≤ maxLen
  rd : Rd w A (bvs ls.flatten)
  each : ∀ l ∈ ls, l.length = 32
theorem Hl.below {w w' : World} {A : Option Addr} {n c : Nat} {ls : List (List UInt8)} (h : Hl w A n c ls) (hb : Below w.heap.size w w') : Hl w' A n c ls := ⟨h.len, h.cap, h.max, h.rd.below hb, h.each⟩
theorem Hl.at {w : World} {A : Option Addr} {n c : Nat} {ls : List (List UInt8)} (h : Hl w A n c ls) (i : Nat) (hi : i < n) : ∃ ad, A = some ad ∧ Rd w (some (ad.add (i * 32))) (bvs (ls.getD i [])) ∧ (ls.getD i []).length = 32 := by
  have hf := flat32_len ls h.each
  have hl := h.len
  obtain ⟨ad, hA, _⟩ := h.rd.at_ (k := 0) (by rw [bvs_length, hf]; omega)
  have hc := h.rd.cut (i * 32) 32
  have e : ((bvs ls.flatten).drop (i * 32)).take 32 = bvs (ls.getD i []) := by
    unfold bvs
    rw [← List.map_drop, ← List.map_take, flat32_get ls h.each i (by omega)]
  rw [e, hA] at hc
  refine ⟨ad, hA, hc, ?_⟩
  rw [List.getD_eq_getElem?_getD, List.getElem?_eq_getElem (by omega)]
  exact h.each _ (List.getElem_mem (by omega))
theorem Hl.to {w : World} {A : Option Addr} {n c : Nat} {ls : List (List UInt8)} (h : Hl w A n c ls) (k : Nat) (hk : k ≤ n) : Hl w A k c (ls.take k) := by
  have hl := h.len
  refine ⟨by rw [List.length_take]; omega, by have := h.cap; omega, h.max, ?_, fun l hl => h.each l (List.mem_of_mem_take hl)⟩
  have h1 := h.rd.take (32 * k)
  rw [← flat32_take ls h.each k (by omega)]
  unfold bvs at h1 ⊢
  rwa [← List.map_take] at h1
theorem exec_siaz {P : Program} {w : World} {a : Act} {o : Oper} {t e : TypeId} {z : Nat} (hu : P.underlying t = some (.slice e)) (hz : (P.info? e).map (·.size) = some z) (x y : Operand) (ho : o.op = .indexAddr t x y) (ad : Addr) (n c i : Nat) (k : IntKind) (hx : a.eval x = .slice (some ad) n c) (hy : a.eval y = .int k (i : Int)) (hi : i < n) :
    (execOp a.eval o).run P w = .ok (.value (.pointer (some (ad.add (i * z))))) w := by
  have he : P.elem t = e := by simp [Program.elem, hu]
  have hs : (sizeOf e).run P w = .ok z w := by
    cases hq : P.info? e with
    | none => simp [hq] at hz
    | some j =>
      simp [hq] at hz
      simp [sizeOf, typeInfo, hq, hz]
  have hr := run_indexAt_slice (P := P) w t ad n c k (i : Int) (by rw [he]; exact hu)
  rw [he, if_pos (by omega), hs] at hr
  simp only [Result.andThen_ok, Int.toNat_natCast] at hr
  unfold execOp
  simp only [ho, hx, hy, Sem.run_bind, hr, Result.andThen_ok, Sem.run_pure]
theorem sz25 : (Try.prog.info? 25).map (·.size) = some 32 := by kernel_rfl
theorem exec_len132 {w : World} {a : Act} {o : Oper} (x : Operand) (ho : o.op = .call { callee := .builtin .len, args := #[x], argTypes := #[132] }) (A : Option Addr) (n c : Nat) (hx : a.eval x = .slice A n c) :
    (execOp a.eval o).run Try.prog w = .ok (.value (.int .i64 (n : Int))) w := by
  unfold execOp
  simp only [ho, resolve, invoke, builtin, Sem.run_bind, Sem.run_pure, Result.andThen_ok, List.map_toArray, List.map_cons, List.map_nil, hx]
  go_simp
set_option maxRecDepth 100000 in
set_option maxHeartbeats 1000000 in
theorem cfirst_any (w : World) : Calls Try.prog 106 #[] w fun e w' => e = .returned (arr8 (shaL [4])) ∧ Below w.heap.size w w' := by
  have hbz : Blk (w.alloc (.cells (bvs (zb 32)).toArray 25)) w.heap.size 25 (bvs (zb 32)) := Blk.new _ _ _
  have hw0 : Below w.heap.size w (w.alloc (.cells (bvs (zb 32)).toArray 25)) := (Below.refl _ _).alloc (Nat.le_refl _) _
  have C := fun u => Lib.hid (tagof_is 4 4 rfl none 0 0 [] [] u rfl (Rd.nil _ _) (AllRd.nil _) (fun i v h => by simp at h) (by omega) (by simp))
  have HRL : Hid ((shaL [4]).length = 32) := Lib.hid (shaL_length _)
  rw [show (4 : UInt8) :: ([] : List (List UInt8)).flatten = [4] from rfl] at C
  generalize shaL [4] = res at *
  unfold arr8 at *
  go_enter Try.func106, Try.ntmps106
  go_upto_region 1 with fail
  refine wp_region_lit ?_
  refine wpList_plain rfl fun K hK => ?_; go_simp
  refine (C _).out.mono ?_
  rintro e w3 ⟨rfl, hw3⟩
  refine hK _ _ ?_; clear hK
  (try simp only [Act.put, List.setIfInBounds_toArray, List.set_cons_zero, List.set_cons_succ])
  refine wpList_store_at at25w.i rfl (.tmp 0) (.tmp 1) rfl w.heap.size 0 25 (bvs (zb 32)) (bvs res) rfl rfl (hbz.below hw3 hbz.lt) (by rw [bvs_length]; exact HRL.out) (by rw [bvs_length, zb_length]; omega) (bvs_one _) ?_
  intro w4 hb4 hg4 hs4
  (try simp only [Act.put, List.setIfInBounds_toArray, List.set_cons_zero, List.set_cons_succ])
  refine wpList_nil ?_
  go_wp2_with fail
  (try simp only [Exit.inBlock, Exit.then])
  rw [splice_all _ _ (by rw [bvs_length, bvs_length, zb_length]; exact HRL.out.symm)] at hb4
  refine bodyPost_ret (ret_cell rfl at25w _ _ w.heap.size 25 (bvs res) rfl hb4 (by rw [bvs_length]; exact HRL.out)) rfl ?_
  exact ⟨rfl, (hw0.trans (hw3.mono hw0.size)).grown hg4 (Nat.le_trans hw0.size hw3.size) (by intro k hk; cases hk; omega)⟩
set_option maxRecDepth 100000 in
set_option maxHeartbeats 2000000 in
theorem cnext_any (k v : List UInt8) (w : World) (lk : k.length = 32) (lv : v.length = 32) :
    Calls Try.prog 108 #[arr8 k, arr8 v] w fun e w' => e = .returned (arr8 (shaL (5 :: (k ++ v)))) ∧ Below w.heap.size w w' := by
  have b1 : Blk (w.alloc (.cells (bvs k).toArray 25)) w.heap.size 25 (bvs k) := Blk.new _ _ _
  have b2 : Blk ((w.alloc (.cells (bvs k).toArray 25)).alloc (.cells (bvs v).toArray 25)) (w.heap.size + 1) 25 (bvs v) := by
    have := Blk.new (w.alloc (.cells (bvs k).toArray 25)) 25 (bvs v)
    rwa [show (w.alloc (.cells (bvs k).toArray 25)).heap.size = w.heap.size + 1 by simp] at this
  have b3 : Blk (((w.alloc (.cells (bvs k).toArray 25)).alloc (.cells (bvs v).toArray 25)).alloc (.cells (bvs (zb 32)).toArray 25)) (w.heap.size + 2) 25 (bvs (zb 32)) := by
    have := Blk.new ((w.alloc (.cells (bvs k).toArray 25)).alloc (.cells (bvs v).toArray 25)) 25 (bvs (zb 32))
    rwa [show ((w.alloc (.cells (bvs k).toArray 25)).alloc (.cells (bvs v).toArray 25)).heap.size = w.heap.size + 2 by simp] at this
  have hall := And.intro ((b1.alloc (.cells (bvs v).toArray 25)).alloc (.cells (bvs (zb 32)).toArray 25)) (And.intro (b2.alloc (.cells (bvs (zb 32)).toArray 25)) (And.intro b3
    ((((Below.refl w.heap.size w).alloc (Nat.le_refl _) (.cells (bvs k).toArray 25)).alloc (by simp) (.cells (bvs v).toArray 25)).alloc (by simp; omega) (.cells (bvs (zb 32)).toArray 25))))
  clear b1 b2 b3
  have C := fun (u : World) (A : Option Addr) (vs : List Value) (hr : Rd u A vs) (ha : AllRd u vs [k, v]) (hm : ∀ (i : Nat) (x : Value), vs[i]? = some x → capOf x ≤ maxLen) => Lib.hid (tagof_is 5 5 rfl A 2 2 vs [k, v] u rfl hr ha hm (by omega) (by simp [lk, lv]))
  have HRL : Hid ((shaL (5 :: (k ++ v))).length = 32) := Lib.hid (shaL_length _)
  rw [show (5 : UInt8) :: [k, v].flatten = 5 :: (k ++ v) by simp] at C
  generalize shaL (5 :: (k ++ v)) = res at *
  unfold arr8 at *
  go_enter Try.func108, Try.ntmps108
  go_upto_region 1 with fail
  generalize hW : World.alloc (World.alloc (World.alloc w _) _) _ = w0
  have h3 : Blk w0 w.heap.size 25 (bvs k) ∧ Blk w0 (w.heap.size + 1) 25 (bvs v) ∧ Blk w0 (w.heap.size + 2) 25 (bvs (zb 32)) ∧ Below w.heap.size w w0 := by rw [← hW]; exact hall
  clear hall hW
  obtain ⟨c1, c2, c3, c4⟩ := h3
  have T := two_slices w0.drew k v 25 25 w.heap.size (w.heap.size + 1) c1.drew c2.drew lk lv
  have T2 := Lib.hid T
  clear T
  refine rg_begin (Any) [4] [2, 3, 4] [0, 1, 2, 3, 4] 0 mixed (by kernel_rfl) (fun _ _ _ _ e hh => ⟨e.symm.trans hh.1, hh.2⟩) ?_
  simp only [pick, List.map_cons, List.map_nil, List.getD_cons_zero, List.getD_cons_succ]
  have hS : (Any) _ := any_at w0.drew
  refine rg_take rfl rfl hS (fun W hW => exec_arr_all ia25 _ rfl w.heap.size 0 rfl) ?_
  simp only [Act.put, List.setIfInBounds_toArray, List.set_cons_zero, List.set_cons_succ]
  refine rg_take rfl rfl hS (fun W hW => exec_arr_all ia25 _ rfl (w.heap.size + 1) 0 rfl) ?_
  simp only [Act.put, List.setIfInBounds_toArray, List.set_cons_zero, List.set_cons_succ]
  refine rg_one rfl rfl ?_; intro K hK; go_simp
  have hS1 := any_at (w0.drew.alloc (.cells #[.slice (some ⟨w.heap.size, 0, none⟩) 32 32, .slice (some ⟨w.heap.size + 1, 0, none⟩) 32 32] 24))
  refine hK _ _ (fun _ => hS1) ?_; clear hK
  refine rg_one rfl rfl ?_; intro K hK; go_simp
  refine (C _ _ _ T2.out.1 T2.out.2.1 T2.out.2.2).out.mono ?_
  rintro e w3 ⟨rfl, hw3⟩
  have hS2 := any_at w3
  refine hK _ _ (fun _ => hS2) ?_; clear hK
  refine rg_one rfl rfl ?_; intro K hK
  refine wp_store_at at25w.i (.tmp 4) (.tmp 8) rfl (w.heap.size + 2) 0 25 (bvs (zb 32)) (bvs res) rfl rfl ((c3.drew.alloc _).below hw3 (c3.drew.alloc _).lt) (by rw [bvs_length]; exact HRL.out) (by rw [bvs_length, zb_length]; omega) (bvs_one _) ?_
  intro w4 hb4 hg4 hs4
  refine hK _ _ (fun h => by cases h) ?_; clear hK
  refine rg_done (by kernel_rfl) ?_
  have c5 : Below w.heap.size w (w0.drew.alloc (.cells #[.slice (some ⟨w.heap.size, 0, none⟩) 32 32, .slice (some ⟨w.heap.size + 1, 0, none⟩) 32 32] 24)) := c4.drew.alloc (by have := c4.size; simpa using this) _
  go_wp2_with fail
  (try simp only [Exit.inBlock, Exit.then])
  rw [splice_all _ _ (by rw [bvs_length, bvs_length, zb_length]; exact HRL.out.symm)] at hb4
  refine bodyPost_ret (ret_cell rfl at25w _ _ (w.heap.size + 2) 25 (bvs res) rfl hb4 (by rw [bvs_length]; exact HRL.out)) rfl ?_
  exact ⟨rfl, (c5.trans (hw3.mono c5.size)).grown hg4 (Nat.le_trans c5.size hw3.size) (by intro k hk; cases hk; omega)⟩
set_option maxRecDepth 100000 in
set_option maxHeartbeats 1000000 in
theorem crfirst_any (w : World) : Calls Try.prog 107 #[] w fun e w' => e = .returned (arr8 (shaL [4])) ∧ Below w.heap.size w w' := by
  have hbz : Blk (w.alloc (.cells (bvs (zb 32)).toArray 25)) w.heap.size 25 (bvs (zb 32)) := Blk.new _ _ _
  have hw0 : Below w.heap.size w (w.alloc (.cells (bvs (zb 32)).toArray 25)) := (Below.refl _ _).alloc (Nat.le_refl _) _
  have C := fun u => Lib.hid (rof_is 4 4 rfl none 0 0 [] [] u rfl (Rd.nil _ _) (AllRd.nil _) (by omega) (by simp))
  have HRL : Hid ((shaL [4]).length = 32) := Lib.hid (shaL_length _)
  rw [show (4 : UInt8) :: ([] : List (List UInt8)).flatten = [4] from rfl] at C
  generalize shaL [4] = res at *
  unfold arr8 at *
  go_enter Try.func107, Try.ntmps107
  go_upto_region 1 with fail
  refine wp_region_lit ?_
  refine wpList_plain rfl fun K hK => ?_; go_simp
  refine (C _).out.mono ?_
  rintro e w3 ⟨rfl, hw3⟩
  refine hK _ _ ?_; clear hK
  (try simp only [Act.put, List.setIfInBounds_toArray, List.set_cons_zero, List.set_cons_succ])
  refine wpList_store_at at25w.i rfl (.tmp 0) (.tmp 1) rfl w.heap.size 0 25 (bvs (zb 32)) (bvs res) rfl rfl (hbz.below hw3 hbz.lt) (by rw [bvs_length]; exact HRL.out) (by rw [bvs_length, zb_length]; omega) (bvs_one _) ?_
  intro w4 hb4 hg4 hs4
  (try simp only [Act.put, List.setIfInBounds_toArray, List.set_cons_zero, List.set_cons_succ])
  refine wpList_nil ?_
  go_wp2_with fail
  (try simp only [Exit.inBlock, Exit.then])
  rw [splice_all _ _ (by rw [bvs_length, bvs_length, zb_length]; exact HRL.out.symm)] at hb4
  refine bodyPost_ret (ret_cell rfl at25w _ _ w.heap.size 25 (bvs res) rfl hb4 (by rw [bvs_length]; exact HRL.out)) rfl ?_
  exact ⟨rfl, (hw0.trans (hw3.mono hw0.size)).grown hg4 (Nat.le_trans hw0.size hw3.size) (by intro k hk; cases hk; omega)⟩
set_option maxRecDepth 100000 in
set_option maxHeartbeats 2000000 in
theorem crnext_any (k v : List UInt8) (w : World) (lk : k.length = 32) (lv : v.length = 32) :
    Calls Try.prog 109 #[arr8 k, arr8 v] w fun e w' => e = .returned (arr8 (shaL (5 :: (k ++ v)))) ∧ Below w.heap.size w w' := by
  have b1 : Blk (w.alloc (.cells (bvs k).toArray 25)) w.heap.size 25 (bvs k) := Blk.new _ _ _
  have b2 : Blk ((w.alloc (.cells (bvs k).toArray 25)).alloc (.cells (bvs v).toArray 25)) (w.heap.size + 1) 25 (bvs v) := by
    have := Blk.new (w.alloc (.cells (bvs k).toArray 25)) 25 (bvs v)
    rwa [show (w.alloc (.cells (bvs k).toArray 25)).heap.size = w.heap.size + 1 by simp] at this
  have b3 : Blk (((w.alloc (.cells (bvs k).toArray 25)).alloc (.cells (bvs v).toArray 25)).alloc (.cells (bvs (zb 32)).toArray 25)) (w.heap.size + 2) 25 (bvs (zb 32)) := by
    have := Blk.new ((w.alloc (.cells (bvs k).toArray 25)).alloc (.cells (bvs v).toArray 25)) 25 (bvs (zb 32))
    rwa [show ((w.alloc (.cells (bvs k).toArray 25)).alloc (.cells (bvs v).toArray 25)).heap.size = w.heap.size + 2 by simp] at this
  have hall := And.intro ((b1.alloc (.cells (bvs v).toArray 25)).alloc (.cells (bvs (zb 32)).toArray 25)) (And.intro (b2.alloc (.cells (bvs (zb 32)).toArray 25)) (And.intro b3
    ((((Below.refl w.heap.size w).alloc (Nat.le_refl _) (.cells (bvs k).toArray 25)).alloc (by simp) (.cells (bvs v).toArray 25)).alloc (by simp; omega) (.cells (bvs (zb 32)).toArray 25))))
  clear b1 b2 b3
  have C := fun (u : World) (A : Option Addr) (vs : List Value) (hr : Rd u A vs) (ha : AllRd u vs [k, v]) (hm : ∀ (i : Nat) (x : Value), vs[i]? = some x → capOf x ≤ maxLen) => Lib.hid (rof_is 5 5 rfl A 2 2 vs [k, v] u rfl hr ha (by omega) (by simp [lk, lv]))
  have HRL : Hid ((shaL (5 :: (k ++ v))).length = 32) := Lib.hid (shaL_length _)
  rw [show (5 : UInt8) :: [k, v].flatten = 5 :: (k ++ v) by simp] at C
  generalize shaL (5 :: (k ++ v)) = res at *
  unfold arr8 at *
  go_enter Try.func109, Try.ntmps109
  go_upto_region 1 with fail
  generalize hW : World.alloc (World.alloc (World.alloc w _) _) _ = w0
  have h3 : Blk w0 w.heap.size 25 (bvs k) ∧ Blk w0 (w.heap.size + 1) 25 (bvs v) ∧ Blk w0 (w.heap.size + 2) 25 (bvs (zb 32)) ∧ Below w.heap.size w w0 := by rw [← hW]; exact hall
  clear hall hW
  obtain ⟨c1, c2, c3, c4⟩ := h3
  have T := two_slices w0.drew k v 25 25 w.heap.size (w.heap.size + 1) c1.drew c2.drew lk lv
  have T2 := Lib.hid T
  clear T
  refine rg_begin (Any) [4] [2, 3, 4] [0, 1, 2, 3, 4] 0 mixed (by kernel_rfl) (fun _ _ _ _ e hh => ⟨e.symm.trans hh.1, hh.2⟩) ?_
  simp only [pick, List.map_cons, List.map_nil, List.getD_cons_zero, List.getD_cons_succ]
  have hS : (Any) _ := any_at w0.drew
  refine rg_take rfl rfl hS (fun W hW => exec_arr_all ia25 _ rfl w.heap.size 0 rfl) ?_
  simp only [Act.put, List.setIfInBounds_toArray, List.set_cons_zero, List.set_cons_succ]
  refine rg_take rfl rfl hS (fun W hW => exec_arr_all ia25 _ rfl (w.heap.size + 1) 0 rfl) ?_
  simp only [Act.put, List.setIfInBounds_toArray, List.set_cons_zero, List.set_cons_succ]
  refine rg_one rfl rfl ?_; intro K hK; go_simp
  have hS1 := any_at (w0.drew.alloc (.cells #[.slice (some ⟨w.heap.size, 0, none⟩) 32 32, .slice (some ⟨w.heap.size + 1, 0, none⟩) 32 32] 24))
  refine hK _ _ (fun _ => hS1) ?_; clear hK
  refine rg_one rfl rfl ?_; intro K hK; go_simp
  refine (C _ _ _ T2.out.1 T2.out.2.1 T2.out.2.2).out.mono ?_
  rintro e w3 ⟨rfl, hw3⟩
  have hS2 := any_at w3
  refine hK _ _ (fun _ => hS2) ?_; clear hK
  refine rg_one rfl rfl ?_; intro K hK
  refine wp_store_at at25w.i (.tmp 4) (.tmp 8) rfl (w.heap.size + 2) 0 25 (bvs (zb 32)) (bvs res) rfl rfl ((c3.drew.alloc _).below hw3 (c3.drew.alloc _).lt) (by rw [bvs_length]; exact HRL.out) (by rw [bvs_length, zb_length]; omega) (bvs_one _) ?_
  intro w4 hb4 hg4 hs4
  refine hK _ _ (fun h => by cases h) ?_; clear hK
  refine rg_done (by kernel_rfl) ?_
  have c5 : Below w.heap.size w (w0.drew.alloc (.cells #[.slice (some ⟨w.heap.size, 0, none⟩) 32 32, .slice (some ⟨w.heap.size + 1, 0, none⟩) 32 32] 24)) := c4.drew.alloc (by have := c4.size; simpa using this) _
  go_wp2_with fail
  (try simp only [Exit.inBlock, Exit.then])
  rw [splice_all _ _ (by rw [bvs_length, bvs_length, zb_length]; exact HRL.out.symm)] at hb4
  refine bodyPost_ret (ret_cell rfl at25w _ _ (w.heap.size + 2) 25 (bvs res) rfl hb4 (by rw [bvs_length]; exact HRL.out)) rfl ?_
  exact ⟨rfl, (c5.trans (hw3.mono c5.size)).grown hg4 (Nat.le_trans c5.size hw3.size) (by intro k hk; cases hk; omega)⟩
set_option maxRecDepth 100000 in
set_option maxHeartbeats 4000000 in
theorem rfold_any (h : List UInt8) (A : Option Addr) (n c : Nat) (ls : List (List UInt8)) (w : World) (lh : h.length = 32) (hl : Hl w A n c ls) :
    Calls Try.prog 104 #[arr8 h, .slice A n c] w fun e w' => e = .returned (arr8 (foldH h ls)) ∧ Below w.heap.size w w' := by
  have HN := Lib.hid hl.len
  have hnm : n ≤ maxLen := Nat.le_trans hl.cap hl.max
  unfold maxLen at hnm
  have b1 : Blk (w.alloc (.cells (bvs h).toArray 25)) w.heap.size 25 (bvs h) := Blk.new _ _ _
  have b2 : Blk ((w.alloc (.cells (bvs h).toArray 25)).alloc (.cells (bvs (zb 32)).toArray 25)) (w.heap.size + 1) 25 (bvs (zb 32)) := by
    have := Blk.new (w.alloc (.cells (bvs h).toArray 25)) 25 (bvs (zb 32))
    rwa [show (w.alloc (.cells (bvs h).toArray 25)).heap.size = w.heap.size + 1 by simp] at this
  have hall : Blk ((w.alloc (.cells (bvs h).toArray 25)).alloc (.cells (bvs (zb 32)).toArray 25)) w.heap.size 25 (bvs h) ∧ Blk ((w.alloc (.cells (bvs h).toArray 25)).alloc (.cells (bvs (zb 32)).toArray 25)) (w.heap.size + 1) 25 (bvs (zb 32)) ∧ Below w.heap.size w ((w.alloc (.cells (bvs h).toArray 25)).alloc (.cells (bvs (zb 32)).toArray 25)) := ⟨(b1.alloc (.cells (bvs (zb 32)).toArray 25)), b2, (((Below.refl w.heap.size w).alloc (by first | exact Nat.le_refl _ | (simp; done) | (simp; omega)) (.cells (bvs h).toArray 25)).alloc (by first | exact Nat.le_refl _ | (simp; done) | (simp; omega)) (.cells (bvs (zb 32)).toArray 25))⟩
  clear b1 b2
  have HRL : Hid ((foldH h ls).length = 32) := Lib.hid (foldH_length h ls lh)
  have HL := Lib.hid (fun k => foldH_length h (ls.take k) lh)
  have HT := Lib.hid (foldH_take h ls)
  have HX := fun (x y : List UInt8) (u : World) (hx : x.length = 32) (hy : y.length = 32) => Lib.hid (crnext_any x y u hx hy)
  have HE : Hid (foldH h (ls.take n) = foldH h ls) := Lib.hid (by rw [List.take_of_length_le (by rw [hl.len]; exact Nat.le_refl _)])
  have H0 : foldH h (ls.take 0) = h := rfl
  have h0 := Lib.hid H0
  clear H0 lh
  generalize foldH h ls = res at *
  unfold arr8 at *
  go_enter Try.func104, Try.ntmps104
  go_upto_region 1 with fail
  generalize hW : World.alloc (World.alloc w _) _ = w0
  have h3 : Blk w0 w.heap.size 25 (bvs h) ∧ Blk w0 (w.heap.size + 1) 25 (bvs (zb 32)) ∧ Below w.heap.size w w0 := by rw [← hW]; exact hall
  clear hall hW
  obtain ⟨c1, c2, c0⟩ := h3
  go_wp2_with fail
  go_loopw [5] (fun i wr => ∃ k : Nat, k ≤ n ∧ i = .int .i64 (k : Int) ∧ Blk wr w.heap.size 25 (bvs (foldH h (ls.take k))) ∧ Blk wr (w.heap.size + 1) 25 (bvs (zb 32)) ∧ Below w.heap.size w wr) (fun i _ => n - (intOf i).toNat)
  case atStart => exact ⟨0, by omega, by go_num, by rw [h0.out]; exact c1, c2, c0⟩
  case round =>
    clear c0 c1 c2
    obtain ⟨k, hk, rfl, c1, c2, c0⟩ := hrel
    by_cases hlt : k < n
    · have hltz : (k : Int) < (n : Int) := by omega
      obtain ⟨ad, rfl, hrd, h32⟩ := hl.at k hlt
      have hrd1 := hrd.below c0
      have hs := Lib.hid (HT.out k (by rw [HN.out]; exact hlt))
      have hx := HL.out k
      have hy := Lib.hid h32
      have C := fun u => HX (foldH h (ls.take k)) (ls.getD k []) u hx h32
      have hyL := Lib.hid (nextH_length (foldH h (ls.take k)) (ls.getD k []))
      obtain ⟨z, hz⟩ : ∃ z, z = foldH h (ls.take (k + 1)) := ⟨_, rfl⟩
      rw [← hz] at hs
      have HZ := Lib.hid hz
      have hxL := Lib.hid hx
      clear hz hrd h32 hx
      have C2 : ∀ u : World, Hid (Calls Try.prog 109 #[.agg (bvs (foldH h (ls.take k))).toArray, .agg (bvs (ls.getD k [])).toArray] u fun e w' => e = .returned (.agg (bvs z).toArray) ∧ Below u.heap.size u w') := by
        intro u
        rw [hs.out]
        exact C u
      have hzl : Hid (z.length = 32) := Lib.hid (by rw [hs.out]; exact hyL.out)
      clear C hs hyL
      generalize foldH h (ls.take k) = x at *
      generalize ls.getD k [] = y at *
      go_upto_region 4 with fail
      refine rg_begin (Below wr.heap.size wr) [6] [5, 6] [0, 1, 2, 3, 4, 5, 6] 0 mixed (by kernel_rfl) (fun _ _ _ _ e hh => ⟨e.symm.trans hh.1, hh.2⟩) ?_
      simp only [pick, List.map_cons, List.map_nil, List.getD_cons_zero, List.getD_cons_succ]
      have hS : (Below wr.heap.size wr) _ := (Below.refl _ _).drew
      refine rg_take rfl rfl hS (fun W hW => exec_load_agg at25w (.tmp 2) rfl w.heap.size 25 (bvs x) rfl (c1.below hW c1.lt) (by rw [bvs_length]; exact hxL.out)) ?_
      simp only [Act.put, List.setIfInBounds_toArray, List.set_cons_zero, List.set_cons_succ]
      refine rg_take (v := ?v3_1) rfl rfl hS ?y3_1 ?_
      case y3_1 => intro W hW; (try subst hW); go_simp; try with_reducible rfl
      simp only [Act.put, List.setIfInBounds_toArray, List.set_cons_zero, List.set_cons_succ]
      refine rg_take (v := ?v3_2) rfl rfl hS ?y3_2 ?_
      case y3_2 => intro W hW; (try subst hW); go_simp; try with_reducible rfl
      simp only [Act.put, List.setIfInBounds_toArray, List.set_cons_zero, List.set_cons_succ]
      refine rg_take rfl rfl hS (fun W hW => exec_siaz Try.underlying132 sz25 _ _ rfl ad n c k _ rfl rfl hlt) ?_
      simp only [Act.put, List.setIfInBounds_toArray, List.set_cons_zero, List.set_cons_succ]
      refine rg_take rfl rfl hS (fun W hW => exec_load_rd at25w _ rfl _ (bvs y) rfl (hrd1.below hW) (by omega) (by rw [bvs_length]; exact hy.out)) ?_
      simp only [Act.put, List.setIfInBounds_toArray, List.set_cons_zero, List.set_cons_succ]
      refine rg_one rfl rfl ?_; intro K hK; go_simp
      with_reducible refine (C2 _).out.mono ?_
      rintro e w2 ⟨rfl, hw2⟩
      have hS1 : Below wr.heap.size wr w2 := Below.trans hS (hw2.mono (Below.size hS))
      refine hK _ _ (fun _ => hS1) ?_; clear hK
      refine rg_one rfl rfl ?_; intro K hK
      refine wp_store_at at25w.i (.tmp 2) (.tmp 17) rfl w.heap.size 0 25 (bvs x) (bvs z) rfl rfl (c1.below hS1 c1.lt) (by rw [bvs_length]; exact hzl.out) (by rw [bvs_length, hxL.out]; exact Nat.le_refl 32) (bvs_one _) ?_
      intro w3 hb3 hg3 hs3
      refine hK _ _ (fun h => by cases h) ?_; clear hK
      refine rg_done (by kernel_rfl) ?_
      have e3 := (c2.below hS1 c2.lt).grown hg3 (by simp)
      have e4 := (bthen c0 hS1 c0.size).grown hg3 (Nat.le_trans c0.size hS1.size) (by intro k hk; cases hk; exact Nat.le_refl _)
      rw [splice_all _ _ (by rw [bvs_length, bvs_length, hxL.out, hzl.out])] at hb3
      go_wp2_with fail
      go_roundw
      case rel => exact ⟨k + 1, by omega, by go_num, by rw [← HZ.out]; exact hb3, e3, e4⟩
      case measure => simp only [intOf]; omega
    · obtain rfl : n = k := by omega
      rw [HE.out] at c1
      clear HE HT HL HX
      go_upto_region 5 with fail
      refine wp_region_lit ?_
      refine wpList_yield rfl _ (exec_load_agg at25w (.tmp 2) rfl w.heap.size 25 (bvs res) rfl c1 (by rw [bvs_length]; exact HRL.out)) ?_
      simp only [Act.put, List.setIfInBounds_toArray, List.set_cons_zero, List.set_cons_succ]
      refine wpList_store_at at25w.i rfl (.tmp 4) (.tmp 18) rfl (w.heap.size + 1) 0 25 (bvs (zb 32)) (bvs res) rfl rfl c2 (by rw [bvs_length]; exact HRL.out) (by rw [bvs_length, zb_length]; omega) (bvs_one _) ?_
      intro w4 hb4 hg4 hs4
      (try simp only [Act.put, List.setIfInBounds_toArray, List.set_cons_zero, List.set_cons_succ])
      refine wpList_nil ?_
      go_wp2_with fail
      (try simp only [Exit.inBlock, Exit.then])
      rw [splice_all _ _ (by rw [bvs_length, bvs_length, zb_length]; exact HRL.out.symm)] at hb4
      refine bodyPost_ret (ret_cell rfl at25w _ _ (w.heap.size + 1) 25 (bvs res) rfl hb4 (by rw [bvs_length]; exact HRL.out)) rfl ?_
      exact ⟨rfl, c0.grown hg4 c0.size (by intro k hk; cases hk; omega)⟩
end Go.Proofs.Ytehbahobkgoapaa
namespace Go.Proofs.Ytehbahobkgoapaa
open Go Go.RowKit
set_option linter.unusedSimpArgs false
set_option linter.unusedVariables false
theorem ownsRow_blk {w : World} {base e z n : Nat} {v : Value} {xs : List Value} (h : w.ownsRow base e z v n xs) {g : Nat} (hg : v.ownBlock = some g) : base ≤ g ∧ ∃ cs, Blk w g e cs := by
  obtain ⟨hl, h⟩ := h
  rcases h with ⟨rfl, rfl⟩ | ⟨g', cap, cur, rfl, hg', hh, _⟩
  · simp [Value.ownBlock] at hg
  · simp [Value.ownBlock] at hg; subst hg
    exact ⟨hg', cur.toList, by simpa [Blk] using hh⟩
theorem ownsRow_below {w w' : World} {base e z n : Nat} {v : Value} {xs : List Value} (h : w.ownsRow base e z v n xs) (hb : Below w.heap.size w w') : w'.ownsRow base e z v n xs := by
  obtain ⟨hl, h⟩ := h
  refine ⟨hl, ?_⟩
  rcases h with h | ⟨g, cap, cur, hv, hg, hh, r⟩
  · exact .inl h
  · have hlt : g < w.heap.size := by
      rcases Nat.lt_or_ge g w.heap.size with hlt | hge
      · exact hlt
      · rw [Array.getElem?_eq_none hge] at hh; cases hh
    exact .inr ⟨g, cap, cur, hv, hg, (hb.block g hlt).trans hh, r⟩
theorem _root_.Go.RowKit.Below.then {a b c : World} (h : Below a.heap.size a b) (k : Below b.heap.size b c) : Below a.heap.size a c := h.trans (k.mono h.size)
end Go.Proofs.Ytehbahobkgoapaa
namespace Go.Proofs.Ytehbahobkgoapaa
open Go Go.RowKit
set_option linter.unusedSimpArgs false
set_option linter.unusedVariables false
theorem Tx.rd {w : World} {A : Option Addr} {n c : Nat} {l : List UInt8} (h : Tx w A n c l) : Rd w A (bvs l) := Lft.rd h
theorem Tx.len {w : World} {A : Option Addr} {n c : Nat} {l : List UInt8} (h : Tx w A n c l) : l.length = n := Lft.len h
theorem Tx.cap {w : World} {A : Option Addr} {n c : Nat} {l : List UInt8} (h : Tx w A n c l) : n ≤ c := Lft.cap h
theorem Tx.max {w : World} {A : Option Addr} {n c : Nat} {l : List UInt8} (h : Tx w A n c l) : c ≤ maxLen := Lft.max h
end Go.Proofs.Ytehbahobkgoapaa
namespace Go.Proofs.Ytehbahobkgoapaa
open Go Go.RowKit
set_option linter.unusedSimpArgs false
set_option linter.unusedVariables false
theorem list_ne (ls ks : List (List UInt8)) (k : Nat) (h : ls.getD k [] ≠ ks.getD k []) : (ls == ks) = false := by
  rw [beq_eq_false_iff_ne]; intro e; exact h (by rw [e])
theorem take_succ_eq {α : Type} (z : α) (ls ks : List α) (k : Nat) (hl : k < ls.length) (hk : k < ks.length) (h : ls.take k = ks.take k) (e : ls.getD k z = ks.getD k z) : ls.take (k + 1) = ks.take (k + 1) := by
  rw [List.take_succ_eq_append_getElem hl, List.take_succ_eq_append_getElem hk, h]
  rw [List.getD_eq_getElem?_getD, List.getD_eq_getElem?_getD, List.getElem?_eq_getElem hl, List.getElem?_eq_getElem hk] at e
  simp only [Option.getD_some] at e
  rw [e]
theorem exec_neq_to {P : Program} {w : World} {a : Act} {o : Oper} {T T' n : Nat} {b : Bool} (B : AB P T n) (x y : Operand) (ho : o.op = .binOp .neq T x y T') (xs ys : List UInt8) (ex : a.eval x = .agg (bvs xs).toArray) (ey : a.eval y = .agg (bvs ys).toArray) (hx : xs.length = n) (hy : ys.length = n) (h : (xs == ys) = !b) :
    (execOp a.eval o).run P w = .ok (.value (.bool b)) w := by rw [exec_neq_arr B x y ho xs ys ex ey hx hy, h, Bool.not_not]
set_option maxRecDepth 100000 in
set_option maxHeartbeats 4000000 in
theorem sameL111 (A : Option Addr) (n c : Nat) (ls : List (List UInt8)) (B : Option Addr) (m d : Nat) (ks : List (List UInt8)) (w : World) (h1 : Hl w A n c ls) (h2 : Hl w B m d ks) (E : Bool) (hE : (ls == ks) = E) :
    Calls Try.prog 111 #[.slice A n c, .slice B m d] w fun e w' => e = .returned (.bool E) ∧ Below w.heap.size w w' := by
  have L1 := Lib.hid h1.len
  have L2 := Lib.hid h2.len
  have hnm : n ≤ maxLen := Nat.le_trans h1.cap h1.max
  unfold maxLen at hnm
  by_cases hq : n = m
  · subst hq
    have HE := Lib.hid hE
    clear hE
    go_enter Try.func111, Try.ntmps111
    go_wp2_with fail
    go_loopw [5] (fun i wr => ∃ k : Nat, k ≤ n ∧ i = .int .i64 (k : Int) ∧ Hid (ls.take k = ks.take k) ∧ Below w.heap.size w wr) (fun i _ => n - (intOf i).toNat)
    case atStart => exact ⟨0, by omega, by go_num, rfl, Below.refl _ _⟩
    case round =>
      obtain ⟨k, hk, rfl, htk, hw⟩ := hrel
      by_cases hlt : k < n
      · have hltz : (k : Int) < (n : Int) := by omega
        obtain ⟨pa, rfl, x0, x32⟩ := h1.at k hlt
        obtain ⟨pb, rfl, y0, y32⟩ := h2.at k hlt
        have x1 := x0.below hw
        have y1 := y0.below hw
        have e1 := Lib.hid x32
        have e2 := Lib.hid y32
        clear x0 y0 x32 y32
        by_cases hxy : ls.getD k [] = ks.getD k []
        · have HT := Lib.hid (take_succ_eq [] ls ks k (by rw [L1.out]; exact hlt) (by rw [L2.out]; exact hlt) htk.out hxy)
          have hb : Hid ((ls.getD k [] == ks.getD k []) = !false) := Lib.hid (by rw [hxy]; simp)
          clear hxy
          generalize ls.getD k [] = x at *
          generalize ks.getD k [] = y at *
          go_upto_region 6 with fail
          refine rg_begin (Below wr.heap.size wr) [] [] [0, 1, 2, 3, 4, 5, 6, 7, 8] 0 mixed (by kernel_rfl) (fun _ _ _ _ e hh => ⟨e.symm.trans hh.1, hh.2⟩) ?_
          simp only [pick, List.map_cons, List.map_nil, List.getD_cons_zero, List.getD_cons_succ]
          have hS : (Below wr.heap.size wr) _ := (Below.refl _ _).drew
          refine rg_take (v := ?v5_0) rfl rfl hS ?y5_0 ?_
          case y5_0 => intro W hW; (try subst hW); go_simp; try with_reducible rfl
          simp only [Act.put, List.setIfInBounds_toArray, List.set_cons_zero, List.set_cons_succ]
          refine rg_take (v := ?v5_1) rfl rfl hS ?y5_1 ?_
          case y5_1 => intro W hW; (try subst hW); go_simp; try with_reducible rfl
          simp only [Act.put, List.setIfInBounds_toArray, List.set_cons_zero, List.set_cons_succ]
          refine rg_take rfl rfl hS (fun W hW => exec_siaz Try.underlying132 sz25 _ _ rfl pa n c k _ rfl rfl hlt) ?_
          simp only [Act.put, List.setIfInBounds_toArray, List.set_cons_zero, List.set_cons_succ]
          refine rg_take rfl rfl hS (fun W hW => exec_load_rd at25w _ rfl _ (bvs x) rfl (x1.below hW) (by omega) (by rw [bvs_length]; exact e1.out)) ?_
          simp only [Act.put, List.setIfInBounds_toArray, List.set_cons_zero, List.set_cons_succ]
          refine rg_take (v := ?v5_4) rfl rfl hS ?y5_4 ?_
          case y5_4 => intro W hW; (try subst hW); go_simp; try with_reducible rfl
          simp only [Act.put, List.setIfInBounds_toArray, List.set_cons_zero, List.set_cons_succ]
          refine rg_take (v := ?v5_5) rfl rfl hS ?y5_5 ?_
          case y5_5 => intro W hW; (try subst hW); go_simp; try with_reducible rfl
          simp only [Act.put, List.setIfInBounds_toArray, List.set_cons_zero, List.set_cons_succ]
          refine rg_take rfl rfl hS (fun W hW => exec_siaz Try.underlying132 sz25 _ _ rfl pb n d k _ rfl rfl hlt) ?_
          simp only [Act.put, List.setIfInBounds_toArray, List.set_cons_zero, List.set_cons_succ]
          refine rg_take rfl rfl hS (fun W hW => exec_load_rd at25w _ rfl _ (bvs y) rfl (y1.below hW) (by omega) (by rw [bvs_length]; exact e2.out)) ?_
          simp only [Act.put, List.setIfInBounds_toArray, List.set_cons_zero, List.set_cons_succ]
          refine rg_take rfl rfl hS (fun W hW => exec_neq_to ab25 _ _ rfl x y rfl rfl e1.out e2.out hb.out) ?_
          simp only [Act.put, List.setIfInBounds_toArray, List.set_cons_zero, List.set_cons_succ]
          refine rg_done (by kernel_rfl) ?_
          go_wp2_with fail
          go_roundw
          case rel => exact ⟨k + 1, by omega, by go_num, HT, hw.drew⟩
          case measure => simp only [intOf]; omega
        · obtain rfl : E = false := by rw [← HE.out]; exact list_ne ls ks k hxy
          have hb : Hid ((ls.getD k [] == ks.getD k []) = !true) := Lib.hid (by simp only [Bool.not_true, beq_eq_false_iff_ne]; exact hxy)
          clear hxy
          generalize ls.getD k [] = x at *
          generalize ks.getD k [] = y at *
          go_upto_region 6 with fail
          refine rg_begin (Below wr.heap.size wr) [] [] [0, 1, 2, 3, 4, 5, 6, 7, 8] 0 mixed (by kernel_rfl) (fun _ _ _ _ e hh => ⟨e.symm.trans hh.1, hh.2⟩) ?_
          simp only [pick, List.map_cons, List.map_nil, List.getD_cons_zero, List.getD_cons_succ]
          have hS : (Below wr.heap.size wr) _ := (Below.refl _ _).drew
          refine rg_take (v := ?v6_0) rfl rfl hS ?y6_0 ?_
          case y6_0 => intro W hW; (try subst hW); go_simp; try with_reducible rfl
          simp only [Act.put, List.setIfInBounds_toArray, List.set_cons_zero, List.set_cons_succ]
          refine rg_take (v := ?v6_1) rfl rfl hS ?y6_1 ?_
          case y6_1 => intro W hW; (try subst hW); go_simp; try with_reducible rfl
          simp only [Act.put, List.setIfInBounds_toArray, List.set_cons_zero, List.set_cons_succ]
          refine rg_take rfl rfl hS (fun W hW => exec_siaz Try.underlying132 sz25 _ _ rfl pa n c k _ rfl rfl hlt) ?_
          simp only [Act.put, List.setIfInBounds_toArray, List.set_cons_zero, List.set_cons_succ]
          refine rg_take rfl rfl hS (fun W hW => exec_load_rd at25w _ rfl _ (bvs x) rfl (x1.below hW) (by omega) (by rw [bvs_length]; exact e1.out)) ?_
          simp only [Act.put, List.setIfInBounds_toArray, List.set_cons_zero, List.set_cons_succ]
          refine rg_take (v := ?v6_4) rfl rfl hS ?y6_4 ?_
          case y6_4 => intro W hW; (try subst hW); go_simp; try with_reducible rfl
          simp only [Act.put, List.setIfInBounds_toArray, List.set_cons_zero, List.set_cons_succ]
          refine rg_take (v := ?v6_5) rfl rfl hS ?y6_5 ?_
          case y6_5 => intro W hW; (try subst hW); go_simp; try with_reducible rfl
          simp only [Act.put, List.setIfInBounds_toArray, List.set_cons_zero, List.set_cons_succ]
          refine rg_take rfl rfl hS (fun W hW => exec_siaz Try.underlying132 sz25 _ _ rfl pb n d k _ rfl rfl hlt) ?_
          simp only [Act.put, List.setIfInBounds_toArray, List.set_cons_zero, List.set_cons_succ]
          refine rg_take rfl rfl hS (fun W hW => exec_load_rd at25w _ rfl _ (bvs y) rfl (y1.below hW) (by omega) (by rw [bvs_length]; exact e2.out)) ?_
          simp only [Act.put, List.setIfInBounds_toArray, List.set_cons_zero, List.set_cons_succ]
          refine rg_take rfl rfl hS (fun W hW => exec_neq_to ab25 _ _ rfl x y rfl rfl e1.out e2.out hb.out) ?_
          simp only [Act.put, List.setIfInBounds_toArray, List.set_cons_zero, List.set_cons_succ]
          refine rg_done (by kernel_rfl) ?_
          go_wp2_with fail
          go_ret
          exact ⟨rfl, hw.drew⟩
      · obtain rfl : k = n := by omega
        have e3 : ls = ks := by
          have h := htk.out
          rwa [List.take_of_length_le (by rw [L1.out]; exact Nat.le_refl _), List.take_of_length_le (by rw [L2.out]; exact Nat.le_refl _)] at h
        obtain rfl : E = true := by rw [← HE.out, e3]; simp
        clear e3
        go_wp2_with fail
        go_ret
        exact ⟨rfl, hw⟩
  · obtain rfl : E = false := by
      rw [← hE, beq_eq_false_iff_ne]
      intro e
      apply hq
      rw [← L1.out, ← L2.out, e]
    have hz : ((n : Int) == (m : Int)) = false := by simp; omega
    clear hE
    go_enter Try.func111, Try.ntmps111
    go_wp2_with fail
    go_ret
    exact ⟨rfl, Below.refl _ _⟩
theorem et25 : ET Try.prog 25 (.agg (bvs (zb 32)).toArray) 32 32 := ⟨by kernel_rfl, rfl, by omega⟩
theorem own_hl {w : World} {base n : Nat} {v : Value} {ls : List (List UInt8)} (h : w.ownsRow base 25 32 v n (bvs ls.flatten)) (hl : ls.length = n) (he : ∀ l ∈ ls, l.length = 32) : ∃ A c, v = .slice A n c ∧ Hl w A n c ls := by
  obtain ⟨A, c, rfl, h1, h2, h3⟩ := ownsRow_rd h
  exact ⟨A, c, rfl, hl, h1, h2, h3, he⟩
set_option maxRecDepth 100000 in
set_option maxHeartbeats 1000000 in
theorem copyH_any (A : Option Addr) (n c : Nat) (ls : List (List UInt8)) (w : World) (h : Hl w A n c ls) (hn : n ≤ 4398046511104) :
    Calls Try.prog 101 #[.slice A n c] w fun e w' => ∃ v, e = .returned v ∧ w'.ownsRow w.heap.size 25 32 v n (bvs ls.flatten) ∧ Below w.heap.size w w' := by
  have hf : ls.flatten.length = n * 32 := by rw [flat32_len ls h.each, h.len]; omega
  have hown : (w.alloc (.cells #[] 25)).ownsRow w.heap.size 25 32 (.slice (some ⟨w.heap.size, 0, none⟩) 0 0) 0 [] := ownsRow_of_blk w.heap.size 32 0 (by simpa using Blk.new w 25 []) (Nat.le_refl _) rfl (by omega)
  have hw0 : Below w.heap.size w (w.alloc (.cells #[] 25)) := (Below.refl _ _).alloc (Nat.le_refl _) _
  have hrd := h.rd.alloc (.cells #[] 25)
  go_enter Try.func101, Try.ntmps101
  go_wp2_with ((with_reducible refine at_dst 5 ?_); refine wpList_append_row Try.underlying132 et25 rfl (.tmp 3) (.tmp 4) rfl w.heap.size _ 0 [] rfl hown A n c (bvs ls.flatten) rfl (by rw [bvs_length, hf]) hrd (bvs_one _) (by unfold maxLen; omega) (by omega) hw0.size ?_; intro v1 w1 ho1 hg1)
  go_ret
  refine ⟨v1, rfl, by simpa using ho1, hw0.grown hg1 hw0.size (fun g hg => ?_)⟩
  have e : some w.heap.size = some g := hg
  exact Nat.le_of_eq (Option.some.inj e)
end Go.Proofs.Ytehbahobkgoapaa
namespace Go.Proofs.Ytehbahobkgoapaa
open Go Go.RowKit
section
variable {P : Program} {ops : Array Oper} {rest : List Oper} {o : Oper} {a : Act} {w : World} {Q : Exit → Act → World → Prop}
theorem wpList_plain_w (hw : Region.wanted o (yielded ops a.tmps) = true) (h : ∀ K : Act → World → Prop, (∀ a w, wpList P ops Q rest a w → K a w) → o.wp P a w K Q) : wpList P ops Q (o :: rest) a w :=
  wpList_step fun K hK => by rw [if_pos hw]; exact h K hK
theorem wpList_skip_w (hw : Region.wanted o (yielded ops a.tmps) = false) (h : wpList P ops Q rest (a.put o.dst undef) w) : wpList P ops Q (o :: rest) a w := by
  unfold wpList
  rw [if_neg (by rw [hw]; decide)]
  exact h
end
end Go.Proofs.Ytehbahobkgoapaa
namespace Go.Proofs.Ytehbahobkgoapaa
open Go Go.RowKit
set_option linter.unusedSimpArgs false
set_option linter.unusedVariables false
theorem st132 : ST Try.prog 132 25 32 := ⟨Try.underlying132, by kernel_rfl⟩
end Go.Proofs.Ytehbahobkgoapaa
namespace Go.Proofs.Ytehbahobkgoapaa
open Go Go.RowKit
set_option linter.unusedSimpArgs false
set_option linter.unusedVariables false
theorem Tx.grown {w w' : World} {A : Option Addr} {n c : Nat} {l : List UInt8} {g : Nat} (h : Tx w A n c l) (hg : w.grownBy w' (some g)) (hne : ∀ ad, A = some ad → ad.block ≠ g) : Tx w' A n c l :=
  ⟨h.len, h.cap, h.max, h.rd.fr ((Fr.refl (· = g) w).grown hg (by intro k hk; cases hk; exact .inl rfl)) (fun ad e q => hne ad e q), fun _ _ h => h⟩
end Go.Proofs.Ytehbahobkgoapaa
namespace Go.Proofs.Ytehbahobkgoapaa
open Go Go.RowKit
set_option linter.unusedSimpArgs false
set_option linter.unusedVariables false
/-- The heads of the first 0, 1, .. roots. -/
def heads (rs : List (List UInt8)) : List (List UInt8) := (List.range (rs.length + 1)).map fun i => foldH firstH (rs.take i)
theorem heads_length (rs : List (List UInt8)) : (heads rs).length = rs.length + 1 := by simp [heads]
theorem heads_get (rs : List (List UInt8)) (i : Nat) (hi : i ≤ rs.length) : (heads rs).getD i [] = foldH firstH (rs.take i) := by
  simp [heads, List.getD, List.getElem?_map, List.getElem?_range (show i < rs.length + 1 by omega)]
theorem heads_snoc (rs : List (List UInt8)) (r : List UInt8) : heads (rs ++ [r]) = heads rs ++ [nextH (foldH firstH rs) r] := by
  unfold heads
  rw [show (rs ++ [r]).length + 1 = (rs.length + 1) + 1 by simp, List.range_succ, List.map_append]
  congr 1
  · apply List.map_congr_left
    intro i hi
    rw [List.take_append_of_le_length (by simp at hi; omega)]
  · simp [List.take_of_length_le, foldH, List.foldl_append]
theorem foldH_len (rs : List (List UInt8)) : (foldH firstH rs).length = 32 := foldH_length firstH rs firstH_length
theorem heads_each (rs : List (List UInt8)) : ∀ l ∈ heads rs, l.length = 32 := by
  intro l hl
  simp only [heads, List.mem_map] at hl
  obtain ⟨i, _, rfl⟩ := hl
  exact foldH_len _
/-- A log in the block G; S: the blocks that are its own. -/
structure LgP (S : Nat → Prop) (w : World) (G : Nat) (rs : List (List UInt8)) (vr vh : Value) : Prop where
  blk : Blk w G 145 [vr, vh]
  r : w.ownsRow 0 25 32 vr rs.length (bvs rs.flatten)
  h : w.ownsRow 0 25 32 vh (rs.length + 1) (bvs (heads rs).flatten)
  rS : ∀ k, vr.ownBlock = some k → S k
  hS : ∀ k, vh.ownBlock = some k → S k
  ap : ∀ k, vr.ownBlock = some k → vh.ownBlock ≠ some k
  gS : S G
  lt : ∀ k, S k → k < w.heap.size
  each : ∀ l ∈ rs, l.length = 32
  few : rs.length ≤ 4096
def Lg (S : Nat → Prop) (w : World) (G : Nat) (rs : List (List UInt8)) : Prop := ∃ vr vh, LgP S w G rs vr vh
theorem ownsRow_fr {S : Nat → Prop} {w w' : World} {base e z n : Nat} {v : Value} {xs : List Value} (h : w.ownsRow base e z v n xs) (hf : Fr S w w') (hv : ∀ k, v.ownBlock = some k → ¬ S k) : w'.ownsRow base e z v n xs := by
  obtain ⟨hl, h⟩ := h
  rcases h with ⟨rfl, rfl⟩ | ⟨g, cap, cur, rfl, hg, hh, hn, hm, hs, ht⟩
  · exact ⟨hl, .inl ⟨rfl, rfl⟩⟩
  · refine ⟨hl, .inr ⟨g, cap, cur, rfl, hg, ?_, hn, hm, hs, ht⟩⟩
    have hlt : g < w.heap.size := by
      rcases Nat.lt_or_ge g w.heap.size with h | h
      · exact h
      · rw [Array.getElem?_eq_none h] at hh; cases hh
    rw [hf.block g hlt (hv g rfl)]; exact hh
theorem Lg.fr {S T : Nat → Prop} {w w' : World} {G : Nat} {rs : List (List UInt8)} (h : Lg S w G rs) (hf : Fr T w w') (hd : ∀ k, S k → ¬ T k) : Lg S w' G rs := by
  obtain ⟨vr, vh, p⟩ := h
  exact ⟨vr, vh, p.blk.fr hf (hd _ p.gS), ownsRow_fr p.r hf (fun k e => hd k (p.rS k e)), ownsRow_fr p.h hf (fun k e => hd k (p.hS k e)), p.rS, p.hS, p.ap, p.gS, fun k hk => Nat.lt_of_lt_of_le (p.lt k hk) hf.size, p.each, p.few⟩
theorem Lg.below {S : Nat → Prop} {w w' : World} {G : Nat} {rs : List (List UInt8)} (h : Lg S w G rs) (hb : Below w.heap.size w w') : Lg S w' G rs :=
  h.fr (T := fun _ => False) (Fr.of_below hb) (fun _ _ f => f)
/-- A log as it is read. -/
structure Lv (w : World) (G : Nat) (rs : List (List UInt8)) (RA : Option Addr) (rc : Nat) (HA : Option Addr) (hc : Nat) : Prop where
  blk : Blk w G 145 [.slice RA rs.length rc, .slice HA (rs.length + 1) hc]
  r : Hl w RA rs.length rc rs
  h : Hl w HA (rs.length + 1) hc (heads rs)
  few : rs.length ≤ 4096
theorem Lg.view {S : Nat → Prop} {w : World} {G : Nat} {rs : List (List UInt8)} (h : Lg S w G rs) : ∃ RA rc HA hc, Lv w G rs RA rc HA hc := by
  obtain ⟨vr, vh, p⟩ := h
  obtain ⟨RA, rc, rfl, h1⟩ := own_hl p.r rfl p.each
  obtain ⟨HA, hc, rfl, h2⟩ := own_hl p.h (heads_length rs) (heads_each rs)
  exact ⟨RA, rc, HA, hc, p.blk, h1, h2, p.few⟩
theorem log_cells {w : World} {g : Nat} {u v : Value} (h : Blk w g 145 [u, v]) : w.cell? ⟨g, 0, none⟩ = some u ∧ w.cell? ⟨g, 1, none⟩ = some v := ⟨by rw [h.cell]; rfl, by rw [h.cell]; rfl⟩
theorem exec_l0 {w : World} {a : Act} {o : Oper} (x : Operand) (ho : o.op = .fieldAddr 145 x 0) (g : Nat) (hx : a.eval x = .pointer (some ⟨g, 0, none⟩)) : (execOp a.eval o).run Try.prog w = .ok (.value (.pointer (some ⟨g, 0, none⟩))) w := by
  unfold execOp
  simp only [ho, hx]
  go_simp
theorem exec_l1 {w : World} {a : Act} {o : Oper} (x : Operand) (ho : o.op = .fieldAddr 145 x 1) (g : Nat) (hx : a.eval x = .pointer (some ⟨g, 0, none⟩)) : (execOp a.eval o).run Try.prog w = .ok (.value (.pointer (some ⟨g, 1, none⟩))) w := by
  unfold execOp
  simp only [ho, hx]
  go_simp
theorem w132 : ∃ d, Try.prog.underlying 132 = some d ∧ d.isRow = false := ⟨_, Try.underlying132, rfl⟩
theorem exec_load132 {w : World} {a : Act} {o : Oper} (x : Operand) (ho : o.op = .load 132 x) (ad : Addr) (v : Value) (hx : a.eval x = .pointer (some ad)) (hc : w.cell? ad = some v) : (execOp a.eval o).run Try.prog w = .ok (.value v) w := by
  obtain ⟨d, hu, hd⟩ := w132
  exact exec_load_one hu hd x ho ad v hx hc
theorem digs_cells (ks : List (List UInt8)) : ((ks.map fun k => Value.agg (bvs k).toArray).flatMap fun v => v.cells.toList) = bvs ks.flatten := by
  induction ks with
  | nil => rfl
  | cons k ks ih =>
    rw [List.map_cons, List.flatMap_cons, ih, List.flatten_cons]
    show (bvs k).toArray.toList ++ _ = _
    simp [bvs]
/-- A list of digests, built of its parts. -/
theorem wp_build_digs {a : Act} {w : World} {o : Oper} {K : Act → World → Prop} {Q : Exit → Act → World → Prop} (ks : List (List UInt8)) (n : Nat) (hn : ks.length = n) (h32 : ∀ k ∈ ks, k.length = 32) (h0 : 0 < n) (hs : n ≤ 100) (parts : Array (Nat × Operand)) (ho : o.op = .buildSlice 132 n parts)
    (he : (parts.map fun (i, x) => (i, a.eval x)).toList = ((ks.map fun k => Value.agg (bvs k).toArray).zipIdx 0).map fun x => (x.2, x.1))
    (h : K (a.put o.dst (.slice (some ⟨w.heap.size, 0, none⟩) n n)) (w.alloc (.cells (bvs ks.flatten).toArray 25))) : o.wp Try.prog a w K Q := by
  obtain ⟨i, hi, hz, hsz, _⟩ := info_parts et25.i
  refine wp_buildSlice 132 25 n parts ho _ i _ Try.underlying132 hi hz (by rw [hsz]; omega) (by rw [hsz]; omega) ?_ h
  rw [he, hsz, Great.fill_whole (by omega) _ _ ?_ ?_, digs_cells]
  · intro v hv
    obtain ⟨k, hk, rfl⟩ := List.mem_map.1 hv
    show (bvs k).toArray.size = 32
    simp [bvs, h32 k hk]
  · simp [hn]
theorem wp_build_dig1 {a : Act} {w : World} {o : Oper} {K : Act → World → Prop} {Q : Exit → Act → World → Prop} (k : List UInt8) (hk : k.length = 32) (x : Operand) (ho : o.op = .buildSlice 132 1 #[(0, x)]) (hx : a.eval x = .agg (bvs k).toArray)
    (h : K (a.put o.dst (.slice (some ⟨w.heap.size, 0, none⟩) 1 1)) (w.alloc (.cells (bvs k).toArray 25))) : o.wp Try.prog a w K Q := by
  refine wp_build_digs [k] 1 rfl (by intro l hl; simp at hl; subst hl; exact hk) (by omega) (by omega) _ ho (by simp [hx]) ?_
  simpa using h
set_option maxRecDepth 100000 in
set_option maxHeartbeats 1000000 in
theorem lnone_no {S : Nat → Prop} (g : Nat) (rs : List (List UInt8)) (w : World) (h : Lg S w g rs) : Calls Try.prog 154 #[.pointer (some ⟨g, 0, none⟩)] w fun e w' => e = .returned (.bool false) ∧ w = w' := by
  obtain ⟨RA, rc, HA, hc, v⟩ := h.view
  have hcl := (log_cells v.blk).2
  have hne : (((rs.length + 1 : Nat) : Int) == 0) = false := by simp; omega
  generalize rs.length + 1 = m at *
  clear v h
  go_enter Try.func154, Try.ntmps154
  go_wp2
  go_ret
  exact ⟨rfl, rfl⟩
set_option maxRecDepth 100000 in
set_option maxHeartbeats 1000000 in
theorem new_log (w : World) : Calls Try.prog 148 #[] w fun e w' => ∃ g S, e = .returned (.pointer (some ⟨g, 0, none⟩)) ∧ Lg S w' g [] ∧ (∀ k, S k → w.heap.size ≤ k) ∧ Below w.heap.size w w' := by
  have C := fun u => Lib.hid (cfirst_any u)
  rw [show shaL [4] = firstH from rfl] at C
  have HL := Lib.hid firstH_length
  have hH : Hid (heads [] = [firstH]) := Lib.hid rfl
  generalize firstH = FH at *
  unfold arr8 at C
  go_enter Try.func148, Try.ntmps148
  go_upto_region 1 with fail
  refine wp_region_lit ?_
  refine wpList_plain rfl fun K hK => ?_; go_simp
  with_reducible refine (C _).out.mono ?_
  rintro e w1 ⟨rfl, hw1⟩
  refine hK _ _ ?_; clear hK
  (try simp only [Act.put, List.setIfInBounds_toArray, List.set_cons_zero, List.set_cons_succ])
  refine wpList_plain rfl fun K hK => ?_
  refine wp_build_dig1 FH HL.out _ rfl rfl ?_
  refine hK _ _ ?_; clear hK
  (try simp only [Act.put, List.setIfInBounds_toArray, List.set_cons_zero, List.set_cons_succ])
  refine wpList_yield rfl _ (exec_build _ rfl #[.slice none 0 0, .slice (some ⟨w1.heap.size, 0, none⟩) 1 1] (by kernel_rfl)) ?_
  simp only [Act.put, List.setIfInBounds_toArray, List.set_cons_zero, List.set_cons_succ]
  refine wpList_plain rfl fun K hK => ?_; go_simp
  refine hK _ _ ?_; clear hK
  (try simp only [Act.put, List.setIfInBounds_toArray, List.set_cons_zero, List.set_cons_succ])
  refine wpList_yield rfl _ (exec_assign _ rfl) ?_
  simp only [Act.put, Act.eval, Array.getD_eq_getD_getElem?, List.getElem?_toArray, List.getElem?_cons_succ, List.getElem?_cons_zero, Option.getD_some, List.setIfInBounds_toArray, List.set_cons_zero, List.set_cons_succ]
  refine wpList_nil ?_
  go_wp2_with fail
  go_ret
  have hb : Blk (w1.alloc (.cells (bvs FH).toArray 25)) w1.heap.size 25 (bvs FH) := Blk.new _ _ _
  have hw2 : Below w1.heap.size w1 (w1.alloc (.cells (bvs FH).toArray 25)) := (Below.refl _ _).alloc (Nat.le_refl _) _
  have hsz : (w1.alloc (.cells (bvs FH).toArray 25)).heap.size = w1.heap.size + 1 := by simp
  have hc : Blk ((w1.alloc (.cells (bvs FH).toArray 25)).alloc (.cells #[.slice none 0 0, .slice (some ⟨w1.heap.size, 0, none⟩) 1 1] 145)) (w1.heap.size + 1) 145 [.slice none 0 0, .slice (some ⟨w1.heap.size, 0, none⟩) 1 1] := by rw [← hsz]; exact Blk.new _ _ _
  have hb3 := hb.alloc (.cells #[.slice none 0 0, .slice (some ⟨w1.heap.size, 0, none⟩) 1 1] 145)
  refine ⟨w1.heap.size + 1, fun k => k = w1.heap.size ∨ k = w1.heap.size + 1, rfl, ⟨_, _, hc, ?_, ?_, ?_, ?_, ?_, .inr rfl, ?_, by simp, by simp⟩, ?_, ?_⟩
  · exact World.ownsRow_nil _ _ _ _
  · rw [hH.out]
    simpa using ownsRow_of_blk 0 32 1 hb3 (Nat.zero_le _) (by simp [bvs, HL.out]) (by unfold maxLen; omega)
  · intro k hk; cases hk
  · intro k hk; cases hk; exact .inl rfl
  · intro k hk; cases hk
  · intro k hk; have := hw1.size; simp; omega
  · intro k hk; have := hw1.size; omega
  · exact ((hw1.trans (hw2.mono hw1.size)).alloc (by have := hw1.size; simp; omega) _)
end Go.Proofs.Ytehbahobkgoapaa
namespace Go.Proofs.Ytehbahobkgoapaa
open Go Go.RowKit
set_option linter.unusedSimpArgs false
set_option linter.unusedVariables false
theorem cell_below {w w' : World} {p : Addr} {u : Value} (h : Below w.heap.size w w') (hp : w.cell? p = some u) : w'.cell? p = some u := (h.cell (World.block_lt_of_cell? w p hp)).trans hp
set_option maxRecDepth 100000 in
set_option maxHeartbeats 1000000 in
theorem loglen_any {S : Nat → Prop} (g : Nat) (rs : List (List UInt8)) (w : World) (h : Lg S w g rs) : Calls Try.prog 116 #[.pointer (some ⟨g, 0, none⟩)] w fun e w' => e = .returned (.int .i64 (rs.length : Int)) ∧ w = w' := by
  obtain ⟨RA, rc, HA, hc, v⟩ := h.view
  have hcl := Lib.hid (log_cells v.blk).1
  have C := Lib.hid (lnone_no g rs w h)
  generalize rs.length = n at *
  clear v h
  go_enter Try.func116, Try.ntmps116
  go_upto_region 3 with (first
    | (go_at_call 154; with_reducible refine C.out.mono ?_; rintro e w1 ⟨rfl, rfl⟩))
  refine wp_region_lit ?_
  refine wpList_yield rfl _ (exec_move _ rfl) ?_
  simp only [Act.put, Act.eval, Array.getD_eq_getD_getElem?, List.getElem?_toArray, List.getElem?_cons_succ, List.getElem?_cons_zero, Option.getD_some, List.setIfInBounds_toArray, List.set_cons_zero, List.set_cons_succ]
  refine wpList_yield rfl _ (exec_nilck _ rfl _ rfl) ?_
  simp only [Act.put, List.setIfInBounds_toArray, List.set_cons_zero, List.set_cons_succ]
  refine wpList_yield rfl _ (exec_l0 _ rfl g rfl) ?_
  simp only [Act.put, List.setIfInBounds_toArray, List.set_cons_zero, List.set_cons_succ]
  refine wpList_yield rfl _ (exec_load132 _ rfl _ _ rfl hcl.out) ?_
  simp only [Act.put, List.setIfInBounds_toArray, List.set_cons_zero, List.set_cons_succ]
  refine wpList_yield rfl _ (exec_len132 _ rfl RA n rc rfl) ?_
  simp only [Act.put, List.setIfInBounds_toArray, List.set_cons_zero, List.set_cons_succ]
  refine wpList_yield rfl _ (exec_assign _ rfl) ?_
  simp only [Act.put, Act.eval, Array.getD_eq_getD_getElem?, List.getElem?_toArray, List.getElem?_cons_succ, List.getElem?_cons_zero, Option.getD_some, List.setIfInBounds_toArray, List.set_cons_zero, List.set_cons_succ]
  refine wpList_nil ?_
  go_wp2_with fail
  go_ret
  exact ⟨rfl, rfl⟩
set_option maxRecDepth 100000 in
set_option maxHeartbeats 1000000 in
theorem loghead_any {S : Nat → Prop} (g : Nat) (rs : List (List UInt8)) (w : World) (h : Lg S w g rs) : Calls Try.prog 120 #[.pointer (some ⟨g, 0, none⟩)] w fun e w' => e = .returned (arr8 (foldH firstH rs)) ∧ Below w.heap.size w w' := by
  have hbz : Blk (w.alloc (.cells (bvs (zb 32)).toArray 25)) w.heap.size 25 (bvs (zb 32)) := Blk.new _ _ _
  have hw0 : Below w.heap.size w (w.alloc (.cells (bvs (zb 32)).toArray 25)) := (Below.refl _ _).alloc (Nat.le_refl _) _
  have h0 := h.below hw0
  obtain ⟨RA, rc, HA, hc, v⟩ := h0.view
  have hcl := Lib.hid (log_cells v.blk)
  have C := Lib.hid (lnone_no g rs _ h0)
  obtain ⟨ad, rfl, hrd, h32⟩ := v.h.at rs.length (by omega)
  rw [heads_get rs rs.length (Nat.le_refl _), List.take_length] at hrd h32
  have HRL := Lib.hid h32
  generalize foldH firstH rs = res at *
  generalize rs.length = n at *
  clear v h0 h h32
  unfold arr8
  have hall := And.intro hbz (And.intro hw0 (And.intro hcl (And.intro C hrd)))
  clear hbz hw0 hcl C hrd
  go_enter Try.func120, Try.ntmps120
  go_upto_region 1 with fail
  generalize hW : World.alloc w _ = w0
  have hall : Blk w0 w.heap.size 25 (bvs (zb 32)) ∧ Below w.heap.size w w0 ∧ Hid (w0.cell? ⟨g, 0, none⟩ = some (.slice RA n rc) ∧ w0.cell? ⟨g, 1, none⟩ = some (.slice (some ad) (n + 1) hc)) ∧ Hid (Calls Try.prog 154 #[.pointer (some ⟨g, 0, none⟩)] w0 fun e w' => e = .returned (.bool false) ∧ w0 = w') ∧ Rd w0 (some (ad.add (n * 32))) (bvs res) := by rw [← hW]; exact hall
  clear hW
  obtain ⟨hbz, hw0, hcl, C, hrd⟩ := hall
  go_upto_region 3 with (first
    | (go_at_call 154; with_reducible refine C.out.mono ?_; rintro e w1 ⟨rfl, rfl⟩))
  clear C
  refine rg_begin (Below w0.heap.size w0) [11] [11] [0, 1, 2, 3, 4, 5, 6, 7, 8, 9, 10, 11] 0 mixed (by kernel_rfl) (fun _ _ _ _ e hh => ⟨e.symm.trans hh.1, hh.2⟩) ?_
  simp only [pick, List.map_cons, List.map_nil, List.getD_cons_zero, List.getD_cons_succ]
  have hS : (Below w0.heap.size w0) _ := (Below.refl _ _).drew
  refine rg_take (v := ?v1_0) rfl rfl hS ?y1_0 ?_
  case y1_0 => intro W hW; (try subst hW); go_simp; try with_reducible rfl
  simp only [Act.put, List.setIfInBounds_toArray, List.set_cons_zero, List.set_cons_succ]
  refine rg_take rfl rfl hS (fun W hW => exec_nilck _ rfl _ rfl) ?_
  simp only [Act.put, List.setIfInBounds_toArray, List.set_cons_zero, List.set_cons_succ]
  refine rg_take rfl rfl hS (fun W hW => exec_l1 _ rfl g rfl) ?_
  simp only [Act.put, List.setIfInBounds_toArray, List.set_cons_zero, List.set_cons_succ]
  refine rg_take rfl rfl hS (fun W hW => exec_load132 _ rfl _ _ rfl (cell_below hW hcl.out.2)) ?_
  simp only [Act.put, List.setIfInBounds_toArray, List.set_cons_zero, List.set_cons_succ]
  refine rg_take (v := ?v1_4) rfl rfl hS ?y1_4 ?_
  case y1_4 => intro W hW; (try subst hW); go_simp; try with_reducible rfl
  simp only [Act.put, List.setIfInBounds_toArray, List.set_cons_zero, List.set_cons_succ]
  refine rg_take rfl rfl hS (fun W hW => exec_nilck _ rfl _ rfl) ?_
  simp only [Act.put, List.setIfInBounds_toArray, List.set_cons_zero, List.set_cons_succ]
  refine rg_take rfl rfl hS (fun W hW => exec_l0 _ rfl g rfl) ?_
  simp only [Act.put, List.setIfInBounds_toArray, List.set_cons_zero, List.set_cons_succ]
  refine rg_take rfl rfl hS (fun W hW => exec_load132 _ rfl _ _ rfl (cell_below hW hcl.out.1)) ?_
  simp only [Act.put, List.setIfInBounds_toArray, List.set_cons_zero, List.set_cons_succ]
  refine rg_take rfl rfl hS (fun W hW => exec_len132 _ rfl RA n rc rfl) ?_
  simp only [Act.put, List.setIfInBounds_toArray, List.set_cons_zero, List.set_cons_succ]
  refine rg_take rfl rfl hS (fun W hW => exec_siaz Try.underlying132 sz25 _ _ rfl ad (n + 1) hc n _ rfl rfl (by omega)) ?_
  simp only [Act.put, List.setIfInBounds_toArray, List.set_cons_zero, List.set_cons_succ]
  refine rg_take rfl rfl hS (fun W hW => exec_load_rd at25w _ rfl _ (bvs res) rfl (hrd.below hW) (by omega) (by rw [bvs_length]; exact HRL.out)) ?_
  simp only [Act.put, List.setIfInBounds_toArray, List.set_cons_zero, List.set_cons_succ]
  refine rg_one rfl rfl ?_; intro K hK
  refine wp_store_at at25w.i (.tmp 2) (.tmp 16) rfl w.heap.size 0 25 (bvs (zb 32)) (bvs res) rfl rfl hbz.drew (by rw [bvs_length]; exact HRL.out) (by rw [bvs_length, zb_length]; omega) (bvs_one _) ?_
  intro w4 hb4 hg4 hs4
  refine hK _ _ (fun h => by cases h) ?_; clear hK
  refine rg_done (by kernel_rfl) ?_
  go_wp2_with fail
  (try simp only [Exit.inBlock, Exit.then])
  rw [splice_all _ _ (by rw [bvs_length, bvs_length, zb_length]; exact HRL.out.symm)] at hb4
  refine bodyPost_ret (ret_cell rfl at25w _ _ w.heap.size 25 (bvs res) rfl hb4 (by rw [bvs_length]; exact HRL.out)) rfl ?_
  exact ⟨rfl, (hw0.drew).grown hg4 hw0.size (by intro k hk; cases hk; omega)⟩
set_option maxRecDepth 100000 in
set_option maxHeartbeats 1000000 in
theorem headAt_in {S : Nat → Prop} (g : Nat) (rs : List (List UInt8)) (w : World) (h : Lg S w g rs) (i : Nat) (hi : i ≤ rs.length) : Calls Try.prog 117 #[.pointer (some ⟨g, 0, none⟩), .int .i64 (i : Int)] w fun e w' => e = .returned (.tuple #[arr8 (foldH firstH (rs.take i)), .int .i64 0]) ∧ Below w.heap.size w w' := by
  have hbz : Blk (w.alloc (.cells (bvs (zb 32)).toArray 25)) w.heap.size 25 (bvs (zb 32)) := Blk.new _ _ _
  have hw0 : Below w.heap.size w (w.alloc (.cells (bvs (zb 32)).toArray 25)) := (Below.refl _ _).alloc (Nat.le_refl _) _
  have h0 := h.below hw0
  obtain ⟨RA, rc, HA, hc, v⟩ := h0.view
  have hcl := Lib.hid (log_cells v.blk)
  have C := Lib.hid (lnone_no g rs _ h0)
  obtain ⟨ad, rfl, hrd, h32⟩ := v.h.at i (by omega)
  rw [heads_get rs i hi] at hrd h32
  generalize foldH firstH (rs.take i) = res at *
  have HRL := Lib.hid h32
  generalize rs.length = n at *
  have hz1 : ¬ (i : Int) < 0 := by omega
  have hz2 : ¬ (n : Int) < (i : Int) := by omega
  clear v h0 h h32
  unfold arr8
  have hall := And.intro hbz (And.intro hw0 (And.intro hcl (And.intro C hrd)))
  clear hbz hw0 hcl C hrd
  go_enter Try.func117, Try.ntmps117
  go_upto_region 1 with fail
  generalize hW : World.alloc w _ = w0
  have hall : Blk w0 w.heap.size 25 (bvs (zb 32)) ∧ Below w.heap.size w w0 ∧ Hid (w0.cell? ⟨g, 0, none⟩ = some (.slice RA n rc) ∧ w0.cell? ⟨g, 1, none⟩ = some (.slice (some ad) (n + 1) hc)) ∧ Hid (Calls Try.prog 154 #[.pointer (some ⟨g, 0, none⟩)] w0 fun e w' => e = .returned (.bool false) ∧ w0 = w') ∧ Rd w0 (some (ad.add (i * 32))) (bvs res) := by rw [← hW]; exact hall
  clear hW
  obtain ⟨hbz, hw0, hcl, C, hrd⟩ := hall
  go_upto_region 3 with (first
    | (go_at_call 154; with_reducible refine C.out.mono ?_; rintro e w1 ⟨rfl, rfl⟩))
  clear C
  refine wp_region_lit ?_
  refine wpList_yield rfl _ (exec_move _ rfl) ?_
  simp only [Act.put, Act.eval, Array.getD_eq_getD_getElem?, List.getElem?_toArray, List.getElem?_cons_succ, List.getElem?_cons_zero, Option.getD_some, List.setIfInBounds_toArray, List.set_cons_zero, List.set_cons_succ]
  refine wpList_yield rfl ?vp2_1 ?yp2_1 ?_
  case yp2_1 => go_simp; try with_reducible rfl
  simp only [Act.put, List.setIfInBounds_toArray, List.set_cons_zero, List.set_cons_succ]
  refine wpList_yield rfl _ (exec_move _ rfl) ?_
  simp only [Act.put, Act.eval, Array.getD_eq_getD_getElem?, List.getElem?_toArray, List.getElem?_cons_succ, List.getElem?_cons_zero, Option.getD_some, List.setIfInBounds_toArray, List.set_cons_zero, List.set_cons_succ]
  refine wpList_yield_w rfl _ (exec_move _ rfl) ?_
  simp only [Act.put, Act.eval, Array.getD_eq_getD_getElem?, List.getElem?_toArray, List.getElem?_cons_succ, List.getElem?_cons_zero, Option.getD_some, List.setIfInBounds_toArray, List.set_cons_zero, List.set_cons_succ]
  refine wpList_yield_w rfl _ (exec_move _ rfl) ?_
  simp only [Act.put, Act.eval, Array.getD_eq_getD_getElem?, List.getElem?_toArray, List.getElem?_cons_succ, List.getElem?_cons_zero, Option.getD_some, List.setIfInBounds_toArray, List.set_cons_zero, List.set_cons_succ]
  refine wpList_yield_w rfl _ (exec_nilck _ rfl _ rfl) ?_
  simp only [Act.put, List.setIfInBounds_toArray, List.set_cons_zero, List.set_cons_succ]
  refine wpList_yield_w rfl _ (exec_l0 _ rfl g rfl) ?_
  simp only [Act.put, List.setIfInBounds_toArray, List.set_cons_zero, List.set_cons_succ]
  refine wpList_yield_w rfl _ (exec_load132 _ rfl _ _ rfl hcl.out.1) ?_
  simp only [Act.put, List.setIfInBounds_toArray, List.set_cons_zero, List.set_cons_succ]
  refine wpList_yield_w rfl _ (exec_len132 _ rfl RA n rc rfl) ?_
  simp only [Act.put, List.setIfInBounds_toArray, List.set_cons_zero, List.set_cons_succ]
  refine wpList_yield_w rfl ?vp3_9 ?yp3_9 ?_
  case yp3_9 => go_simp; try with_reducible rfl
  simp only [Act.put, List.setIfInBounds_toArray, List.set_cons_zero, List.set_cons_succ]
  refine wpList_yield rfl ?vp4_10 ?yp4_10 ?_
  case yp4_10 => go_simp; try with_reducible rfl
  simp only [Act.put, List.setIfInBounds_toArray, List.set_cons_zero, List.set_cons_succ]
  refine wpList_nil ?_
  go_upto_region 5 with fail
  refine wp_region_lit ?_
  refine wpList_yield rfl _ (exec_move _ rfl) ?_
  simp only [Act.put, Act.eval, Array.getD_eq_getD_getElem?, List.getElem?_toArray, List.getElem?_cons_succ, List.getElem?_cons_zero, Option.getD_some, List.setIfInBounds_toArray, List.set_cons_zero, List.set_cons_succ]
  refine wpList_yield rfl _ (exec_nilck _ rfl _ rfl) ?_
  simp only [Act.put, List.setIfInBounds_toArray, List.set_cons_zero, List.set_cons_succ]
  refine wpList_yield rfl _ (exec_l1 _ rfl g rfl) ?_
  simp only [Act.put, List.setIfInBounds_toArray, List.set_cons_zero, List.set_cons_succ]
  refine wpList_yield rfl _ (exec_load132 _ rfl _ _ rfl hcl.out.2) ?_
  simp only [Act.put, List.setIfInBounds_toArray, List.set_cons_zero, List.set_cons_succ]
  refine wpList_yield rfl _ (exec_move _ rfl) ?_
  simp only [Act.put, Act.eval, Array.getD_eq_getD_getElem?, List.getElem?_toArray, List.getElem?_cons_succ, List.getElem?_cons_zero, Option.getD_some, List.setIfInBounds_toArray, List.set_cons_zero, List.set_cons_succ]
  refine wpList_yield rfl _ (exec_siaz Try.underlying132 sz25 _ _ rfl ad (n + 1) hc i _ rfl rfl (by omega)) ?_
  simp only [Act.put, List.setIfInBounds_toArray, List.set_cons_zero, List.set_cons_succ]
  refine wpList_yield rfl _ (exec_load_rd at25w _ rfl _ (bvs res) rfl hrd (by omega) (by rw [bvs_length]; exact HRL.out)) ?_
  simp only [Act.put, List.setIfInBounds_toArray, List.set_cons_zero, List.set_cons_succ]
  refine wpList_store_at at25w.i rfl (.tmp 4) (.tmp 27) rfl w.heap.size 0 25 (bvs (zb 32)) (bvs res) rfl rfl hbz (by rw [bvs_length]; exact HRL.out) (by rw [bvs_length, zb_length]; omega) (bvs_one _) ?_
  intro w4 hb4 hg4 hs4
  (try simp only [Act.put, List.setIfInBounds_toArray, List.set_cons_zero, List.set_cons_succ])
  refine wpList_yield rfl _ (exec_assign _ rfl) ?_
  simp only [Act.put, Act.eval, Array.getD_eq_getD_getElem?, List.getElem?_toArray, List.getElem?_cons_succ, List.getElem?_cons_zero, Option.getD_some, List.setIfInBounds_toArray, List.set_cons_zero, List.set_cons_succ]
  refine wpList_nil ?_
  go_wp2_with fail
  (try simp only [Exit.inBlock, Exit.then])
  rw [splice_all _ _ (by rw [bvs_length, bvs_length, zb_length]; exact HRL.out.symm)] at hb4
  refine bodyPost_ret (ret_cell_tmp rfl at25w _ _ w.heap.size 25 (bvs res) rfl hb4 (by rw [bvs_length]; exact HRL.out)) rfl ?_
  exact ⟨rfl, hw0.grown hg4 hw0.size (by intro k hk; cases hk; omega)⟩
set_option maxRecDepth 100000 in
set_option maxHeartbeats 1000000 in
theorem headAt_out {S : Nat → Prop} (g : Nat) (rs : List (List UInt8)) (w : World) (h : Lg S w g rs) (z : Int) (hz : z < 0 ∨ (rs.length : Int) < z) : Calls Try.prog 117 #[.pointer (some ⟨g, 0, none⟩), .int .i64 z] w fun e w' => e = .returned (.tuple #[arr8 (zb 32), .int .i64 7]) ∧ Below w.heap.size w w' := by
  have hbz : Blk (w.alloc (.cells (bvs (zb 32)).toArray 25)) w.heap.size 25 (bvs (zb 32)) := Blk.new _ _ _
  have hw0 : Below w.heap.size w (w.alloc (.cells (bvs (zb 32)).toArray 25)) := (Below.refl _ _).alloc (Nat.le_refl _) _
  have h0 := h.below hw0
  obtain ⟨RA, rc, HA, hc, v⟩ := h0.view
  have hcl := Lib.hid (log_cells v.blk)
  have C := Lib.hid (lnone_no g rs _ h0)
  have HRL : Hid ((zb 32).length = 32) := Lib.hid (zb_length 32)
  generalize rs.length = n at *
  have hrd : True := trivial
  clear v h0 h
  unfold arr8
  have hall := And.intro hbz (And.intro hw0 (And.intro hcl (And.intro C hrd)))
  clear hbz hw0 hcl C hrd
  by_cases hz1 : z < 0
  · clear hz
    go_enter Try.func117, Try.ntmps117
    go_upto_region 1 with fail
    generalize hW : World.alloc w _ = w0
    have hall : Blk w0 w.heap.size 25 (bvs (zb 32)) ∧ Below w.heap.size w w0 ∧ Hid (w0.cell? ⟨g, 0, none⟩ = some (.slice RA n rc) ∧ w0.cell? ⟨g, 1, none⟩ = some (.slice HA (n + 1) hc)) ∧ Hid (Calls Try.prog 154 #[.pointer (some ⟨g, 0, none⟩)] w0 fun e w' => e = .returned (.bool false) ∧ w0 = w') ∧ True := by rw [← hW]; exact hall
    clear hW
    obtain ⟨hbz, hw0, hcl, C, hrd⟩ := hall
    go_upto_region 3 with (first
      | (go_at_call 154; with_reducible refine C.out.mono ?_; rintro e w1 ⟨rfl, rfl⟩))
    clear C
    refine wp_region_lit ?_
    refine wpList_yield rfl _ (exec_move _ rfl) ?_
    simp only [Act.put, Act.eval, Array.getD_eq_getD_getElem?, List.getElem?_toArray, List.getElem?_cons_succ, List.getElem?_cons_zero, Option.getD_some, List.setIfInBounds_toArray, List.set_cons_zero, List.set_cons_succ]
    refine wpList_yield rfl ?vp5_1 ?yp5_1 ?_
    case yp5_1 => go_simp; try with_reducible rfl
    simp only [Act.put, List.setIfInBounds_toArray, List.set_cons_zero, List.set_cons_succ]
    refine wpList_yield rfl _ (exec_move _ rfl) ?_
    simp only [Act.put, Act.eval, Array.getD_eq_getD_getElem?, List.getElem?_toArray, List.getElem?_cons_succ, List.getElem?_cons_zero, Option.getD_some, List.setIfInBounds_toArray, List.set_cons_zero, List.set_cons_succ]
    refine no_implicit_lambda% (wpList_skip_w ?k6_3 ?_)
    case k6_3 => rfl
    simp only [Act.put, List.setIfInBounds_toArray, List.set_cons_zero, List.set_cons_succ]
    refine no_implicit_lambda% (wpList_skip_w ?k7_4 ?_)
    case k7_4 => rfl
    simp only [Act.put, List.setIfInBounds_toArray, List.set_cons_zero, List.set_cons_succ]
    refine no_implicit_lambda% (wpList_skip_w ?k8_5 ?_)
    case k8_5 => rfl
    simp only [Act.put, List.setIfInBounds_toArray, List.set_cons_zero, List.set_cons_succ]
    refine no_implicit_lambda% (wpList_skip_w ?k9_6 ?_)
    case k9_6 => rfl
    simp only [Act.put, List.setIfInBounds_toArray, List.set_cons_zero, List.set_cons_succ]
    refine no_implicit_lambda% (wpList_skip_w ?k10_7 ?_)
    case k10_7 => rfl
    simp only [Act.put, List.setIfInBounds_toArray, List.set_cons_zero, List.set_cons_succ]
    refine no_implicit_lambda% (wpList_skip_w ?k11_8 ?_)
    case k11_8 => rfl
    simp only [Act.put, List.setIfInBounds_toArray, List.set_cons_zero, List.set_cons_succ]
    refine no_implicit_lambda% (wpList_skip_w ?k12_9 ?_)
    case k12_9 => rfl
    simp only [Act.put, List.setIfInBounds_toArray, List.set_cons_zero, List.set_cons_succ]
    refine wpList_yield rfl ?vp13_10 ?yp13_10 ?_
    case yp13_10 => go_simp; try with_reducible rfl
    simp only [Act.put, List.setIfInBounds_toArray, List.set_cons_zero, List.set_cons_succ]
    refine wpList_nil ?_
    go_upto_region 4 with fail
    refine wp_region_lit ?_
    refine wpList_yield rfl _ (exec_build _ rfl (bvs (zb 32)).toArray (by kernel_rfl)) ?_
    simp only [Act.put, List.setIfInBounds_toArray, List.set_cons_zero, List.set_cons_succ]
    refine wpList_store_at at25w.i rfl (.tmp 4) (.tmp 20) rfl w.heap.size 0 25 (bvs (zb 32)) (bvs (zb 32)) rfl rfl hbz (by rw [bvs_length]; exact HRL.out) (by rw [bvs_length, zb_length]; omega) (bvs_one _) ?_
    intro w4 hb4 hg4 hs4
    (try simp only [Act.put, List.setIfInBounds_toArray, List.set_cons_zero, List.set_cons_succ])
    refine wpList_yield rfl _ (exec_assign _ rfl) ?_
    simp only [Act.put, Act.eval, Array.getD_eq_getD_getElem?, List.getElem?_toArray, List.getElem?_cons_succ, List.getElem?_cons_zero, Option.getD_some, List.setIfInBounds_toArray, List.set_cons_zero, List.set_cons_succ]
    refine wpList_nil ?_
    go_wp2_with fail
    (try simp only [Exit.inBlock, Exit.then])
    rw [splice_all _ _ (by rfl)] at hb4
    refine bodyPost_ret (ret_cell_tmp rfl at25w _ _ w.heap.size 25 (bvs (zb 32)) rfl hb4 (by rw [bvs_length]; exact HRL.out)) rfl ?_
    exact ⟨rfl, hw0.grown hg4 hw0.size (by intro k hk; cases hk; omega)⟩
  · have hz2 : (n : Int) < z := by omega
    have hq1 : decide (z < 0) = false := by simp; omega
    have hq2 : decide ((n : Int) < z) = true := by simp; omega
    clear hz hz1 hz2
    go_enter Try.func117, Try.ntmps117
    go_upto_region 1 with fail
    generalize hW : World.alloc w _ = w0
    have hall : Blk w0 w.heap.size 25 (bvs (zb 32)) ∧ Below w.heap.size w w0 ∧ Hid (w0.cell? ⟨g, 0, none⟩ = some (.slice RA n rc) ∧ w0.cell? ⟨g, 1, none⟩ = some (.slice HA (n + 1) hc)) ∧ Hid (Calls Try.prog 154 #[.pointer (some ⟨g, 0, none⟩)] w0 fun e w' => e = .returned (.bool false) ∧ w0 = w') ∧ True := by rw [← hW]; exact hall
    clear hW
    obtain ⟨hbz, hw0, hcl, C, hrd⟩ := hall
    go_upto_region 3 with (first
      | (go_at_call 154; with_reducible refine C.out.mono ?_; rintro e w1 ⟨rfl, rfl⟩))
    clear C
    refine wp_region_lit ?_
    refine wpList_yield rfl _ (exec_move _ rfl) ?_
    simp only [Act.put, Act.eval, Array.getD_eq_getD_getElem?, List.getElem?_toArray, List.getElem?_cons_succ, List.getElem?_cons_zero, Option.getD_some, List.setIfInBounds_toArray, List.set_cons_zero, List.set_cons_succ]
    refine wpList_yield rfl ?vp14_1 ?yp14_1 ?_
    case yp14_1 => go_simp; try with_reducible rfl
    simp only [Act.put, List.setIfInBounds_toArray, List.set_cons_zero, List.set_cons_succ]
    refine wpList_yield rfl _ (exec_move _ rfl) ?_
    simp only [Act.put, Act.eval, Array.getD_eq_getD_getElem?, List.getElem?_toArray, List.getElem?_cons_succ, List.getElem?_cons_zero, Option.getD_some, List.setIfInBounds_toArray, List.set_cons_zero, List.set_cons_succ]
    refine wpList_yield_w rfl _ (exec_move _ rfl) ?_
    simp only [Act.put, Act.eval, Array.getD_eq_getD_getElem?, List.getElem?_toArray, List.getElem?_cons_succ, List.getElem?_cons_zero, Option.getD_some, List.setIfInBounds_toArray, List.set_cons_zero, List.set_cons_succ]
    refine wpList_yield_w rfl _ (exec_move _ rfl) ?_
    simp only [Act.put, Act.eval, Array.getD_eq_getD_getElem?, List.getElem?_toArray, List.getElem?_cons_succ, List.getElem?_cons_zero, Option.getD_some, List.setIfInBounds_toArray, List.set_cons_zero, List.set_cons_succ]
    refine wpList_yield_w rfl _ (exec_nilck _ rfl _ rfl) ?_
    simp only [Act.put, List.setIfInBounds_toArray, List.set_cons_zero, List.set_cons_succ]
    refine wpList_yield_w rfl _ (exec_l0 _ rfl g rfl) ?_
    simp only [Act.put, List.setIfInBounds_toArray, List.set_cons_zero, List.set_cons_succ]
    refine wpList_yield_w rfl _ (exec_load132 _ rfl _ _ rfl hcl.out.1) ?_
    simp only [Act.put, List.setIfInBounds_toArray, List.set_cons_zero, List.set_cons_succ]
    refine wpList_yield_w rfl _ (exec_len132 _ rfl RA n rc rfl) ?_
    simp only [Act.put, List.setIfInBounds_toArray, List.set_cons_zero, List.set_cons_succ]
    refine wpList_yield_w rfl ?vp15_9 ?yp15_9 ?_
    case yp15_9 => go_simp; try with_reducible rfl
    simp only [Act.put, List.setIfInBounds_toArray, List.set_cons_zero, List.set_cons_succ]
    refine wpList_yield rfl ?vp16_10 ?yp16_10 ?_
    case yp16_10 => go_simp; try with_reducible rfl
    simp only [Act.put, List.setIfInBounds_toArray, List.set_cons_zero, List.set_cons_succ]
    refine wpList_nil ?_
    go_upto_region 4 with fail
    refine wp_region_lit ?_
    refine wpList_yield rfl _ (exec_build _ rfl (bvs (zb 32)).toArray (by kernel_rfl)) ?_
    simp only [Act.put, List.setIfInBounds_toArray, List.set_cons_zero, List.set_cons_succ]
    refine wpList_store_at at25w.i rfl (.tmp 4) (.tmp 20) rfl w.heap.size 0 25 (bvs (zb 32)) (bvs (zb 32)) rfl rfl hbz (by rw [bvs_length]; exact HRL.out) (by rw [bvs_length, zb_length]; omega) (bvs_one _) ?_
    intro w4 hb4 hg4 hs4
    (try simp only [Act.put, List.setIfInBounds_toArray, List.set_cons_zero, List.set_cons_succ])
    refine wpList_yield rfl _ (exec_assign _ rfl) ?_
    simp only [Act.put, Act.eval, Array.getD_eq_getD_getElem?, List.getElem?_toArray, List.getElem?_cons_succ, List.getElem?_cons_zero, Option.getD_some, List.setIfInBounds_toArray, List.set_cons_zero, List.set_cons_succ]
    refine wpList_nil ?_
    go_wp2_with fail
    (try simp only [Exit.inBlock, Exit.then])
    rw [splice_all _ _ (by rfl)] at hb4
    refine bodyPost_ret (ret_cell_tmp rfl at25w _ _ w.heap.size 25 (bvs (zb 32)) rfl hb4 (by rw [bvs_length]; exact HRL.out)) rfl ?_
    exact ⟨rfl, hw0.grown hg4 hw0.size (by intro k hk; cases hk; omega)⟩
set_option maxRecDepth 100000 in
set_option maxHeartbeats 1000000 in
theorem at_in {S : Nat → Prop} (g : Nat) (rs : List (List UInt8)) (w : World) (h : Lg S w g rs) (i : Nat) (hi : i < rs.length) : Calls Try.prog 121 #[.pointer (some ⟨g, 0, none⟩), .int .i64 (i : Int)] w fun e w' => e = .returned (.tuple #[arr8 (rs.getD i []), .int .i64 0]) ∧ Below w.heap.size w w' := by
  have hbz : Blk (w.alloc (.cells (bvs (zb 32)).toArray 25)) w.heap.size 25 (bvs (zb 32)) := Blk.new _ _ _
  have hw0 : Below w.heap.size w (w.alloc (.cells (bvs (zb 32)).toArray 25)) := (Below.refl _ _).alloc (Nat.le_refl _) _
  have h0 := h.below hw0
  obtain ⟨RA, rc, HA, hc, v⟩ := h0.view
  have hcl := Lib.hid (log_cells v.blk)
  have C := Lib.hid (lnone_no g rs _ h0)
  obtain ⟨ad, rfl, hrd, h32⟩ := v.r.at i (by omega)
  generalize rs.getD i [] = res at *
  have HRL := Lib.hid h32
  generalize rs.length = n at *
  have hz1 : ¬ (i : Int) < 0 := by omega
  have hz2 : ¬ (n : Int) ≤ (i : Int) := by omega
  clear v h0 h h32
  unfold arr8
  have hall := And.intro hbz (And.intro hw0 (And.intro hcl (And.intro C hrd)))
  clear hbz hw0 hcl C hrd
  go_enter Try.func121, Try.ntmps121
  go_upto_region 1 with fail
  generalize hW : World.alloc w _ = w0
  have hall : Blk w0 w.heap.size 25 (bvs (zb 32)) ∧ Below w.heap.size w w0 ∧ Hid (w0.cell? ⟨g, 0, none⟩ = some (.slice (some ad) n rc) ∧ w0.cell? ⟨g, 1, none⟩ = some (.slice HA (n + 1) hc)) ∧ Hid (Calls Try.prog 154 #[.pointer (some ⟨g, 0, none⟩)] w0 fun e w' => e = .returned (.bool false) ∧ w0 = w') ∧ Rd w0 (some (ad.add (i * 32))) (bvs res) := by rw [← hW]; exact hall
  clear hW
  obtain ⟨hbz, hw0, hcl, C, hrd⟩ := hall
  go_upto_region 3 with (first
    | (go_at_call 154; with_reducible refine C.out.mono ?_; rintro e w1 ⟨rfl, rfl⟩))
  clear C
  refine wp_region_lit ?_
  refine wpList_yield rfl _ (exec_move _ rfl) ?_
  simp only [Act.put, Act.eval, Array.getD_eq_getD_getElem?, List.getElem?_toArray, List.getElem?_cons_succ, List.getElem?_cons_zero, Option.getD_some, List.setIfInBounds_toArray, List.set_cons_zero, List.set_cons_succ]
  refine wpList_yield rfl ?vp17_1 ?yp17_1 ?_
  case yp17_1 => go_simp; try with_reducible rfl
  simp only [Act.put, List.setIfInBounds_toArray, List.set_cons_zero, List.set_cons_succ]
  refine wpList_yield rfl _ (exec_move _ rfl) ?_
  simp only [Act.put, Act.eval, Array.getD_eq_getD_getElem?, List.getElem?_toArray, List.getElem?_cons_succ, List.getElem?_cons_zero, Option.getD_some, List.setIfInBounds_toArray, List.set_cons_zero, List.set_cons_succ]
  refine wpList_yield_w rfl _ (exec_move _ rfl) ?_
  simp only [Act.put, Act.eval, Array.getD_eq_getD_getElem?, List.getElem?_toArray, List.getElem?_cons_succ, List.getElem?_cons_zero, Option.getD_some, List.setIfInBounds_toArray, List.set_cons_zero, List.set_cons_succ]
  refine wpList_yield_w rfl _ (exec_move _ rfl) ?_
  simp only [Act.put, Act.eval, Array.getD_eq_getD_getElem?, List.getElem?_toArray, List.getElem?_cons_succ, List.getElem?_cons_zero, Option.getD_some, List.setIfInBounds_toArray, List.set_cons_zero, List.set_cons_succ]
  refine wpList_yield_w rfl _ (exec_nilck _ rfl _ rfl) ?_
  simp only [Act.put, List.setIfInBounds_toArray, List.set_cons_zero, List.set_cons_succ]
  refine wpList_yield_w rfl _ (exec_l0 _ rfl g rfl) ?_
  simp only [Act.put, List.setIfInBounds_toArray, List.set_cons_zero, List.set_cons_succ]
  refine wpList_yield_w rfl _ (exec_load132 _ rfl _ _ rfl hcl.out.1) ?_
  simp only [Act.put, List.setIfInBounds_toArray, List.set_cons_zero, List.set_cons_succ]
  refine wpList_yield_w rfl _ (exec_len132 _ rfl (some ad) n rc rfl) ?_
  simp only [Act.put, List.setIfInBounds_toArray, List.set_cons_zero, List.set_cons_succ]
  refine wpList_yield_w rfl ?vp18_9 ?yp18_9 ?_
  case yp18_9 => go_simp; try with_reducible rfl
  simp only [Act.put, List.setIfInBounds_toArray, List.set_cons_zero, List.set_cons_succ]
  refine wpList_yield rfl ?vp19_10 ?yp19_10 ?_
  case yp19_10 => go_simp; try with_reducible rfl
  simp only [Act.put, List.setIfInBounds_toArray, List.set_cons_zero, List.set_cons_succ]
  refine wpList_nil ?_
  go_upto_region 5 with fail
  refine wp_region_lit ?_
  refine wpList_yield rfl _ (exec_move _ rfl) ?_
  simp only [Act.put, Act.eval, Array.getD_eq_getD_getElem?, List.getElem?_toArray, List.getElem?_cons_succ, List.getElem?_cons_zero, Option.getD_some, List.setIfInBounds_toArray, List.set_cons_zero, List.set_cons_succ]
  refine wpList_yield rfl _ (exec_nilck _ rfl _ rfl) ?_
  simp only [Act.put, List.setIfInBounds_toArray, List.set_cons_zero, List.set_cons_succ]
  refine wpList_yield rfl _ (exec_l0 _ rfl g rfl) ?_
  simp only [Act.put, List.setIfInBounds_toArray, List.set_cons_zero, List.set_cons_succ]
  refine wpList_yield rfl _ (exec_load132 _ rfl _ _ rfl hcl.out.1) ?_
  simp only [Act.put, List.setIfInBounds_toArray, List.set_cons_zero, List.set_cons_succ]
  refine wpList_yield rfl _ (exec_move _ rfl) ?_
  simp only [Act.put, Act.eval, Array.getD_eq_getD_getElem?, List.getElem?_toArray, List.getElem?_cons_succ, List.getElem?_cons_zero, Option.getD_some, List.setIfInBounds_toArray, List.set_cons_zero, List.set_cons_succ]
  refine wpList_yield rfl _ (exec_siaz Try.underlying132 sz25 _ _ rfl ad n rc i _ rfl rfl (by omega)) ?_
  simp only [Act.put, List.setIfInBounds_toArray, List.set_cons_zero, List.set_cons_succ]
  refine wpList_yield rfl _ (exec_load_rd at25w _ rfl _ (bvs res) rfl hrd (by omega) (by rw [bvs_length]; exact HRL.out)) ?_
  simp only [Act.put, List.setIfInBounds_toArray, List.set_cons_zero, List.set_cons_succ]
  refine wpList_store_at at25w.i rfl (.tmp 4) (.tmp 27) rfl w.heap.size 0 25 (bvs (zb 32)) (bvs res) rfl rfl hbz (by rw [bvs_length]; exact HRL.out) (by rw [bvs_length, zb_length]; omega) (bvs_one _) ?_
  intro w4 hb4 hg4 hs4
  (try simp only [Act.put, List.setIfInBounds_toArray, List.set_cons_zero, List.set_cons_succ])
  refine wpList_yield rfl _ (exec_assign _ rfl) ?_
  simp only [Act.put, Act.eval, Array.getD_eq_getD_getElem?, List.getElem?_toArray, List.getElem?_cons_succ, List.getElem?_cons_zero, Option.getD_some, List.setIfInBounds_toArray, List.set_cons_zero, List.set_cons_succ]
  refine wpList_nil ?_
  go_wp2_with fail
  (try simp only [Exit.inBlock, Exit.then])
  rw [splice_all _ _ (by rw [bvs_length, bvs_length, zb_length]; exact HRL.out.symm)] at hb4
  refine bodyPost_ret (ret_cell_tmp rfl at25w _ _ w.heap.size 25 (bvs res) rfl hb4 (by rw [bvs_length]; exact HRL.out)) rfl ?_
  exact ⟨rfl, hw0.grown hg4 hw0.size (by intro k hk; cases hk; omega)⟩
set_option maxRecDepth 100000 in
set_option maxHeartbeats 1000000 in
theorem at_out {S : Nat → Prop} (g : Nat) (rs : List (List UInt8)) (w : World) (h : Lg S w g rs) (z : Int) (hz : z < 0 ∨ (rs.length : Int) ≤ z) : Calls Try.prog 121 #[.pointer (some ⟨g, 0, none⟩), .int .i64 z] w fun e w' => e = .returned (.tuple #[arr8 (zb 32), .int .i64 7]) ∧ Below w.heap.size w w' := by
  have hbz : Blk (w.alloc (.cells (bvs (zb 32)).toArray 25)) w.heap.size 25 (bvs (zb 32)) := Blk.new _ _ _
  have hw0 : Below w.heap.size w (w.alloc (.cells (bvs (zb 32)).toArray 25)) := (Below.refl _ _).alloc (Nat.le_refl _) _
  have h0 := h.below hw0
  obtain ⟨RA, rc, HA, hc, v⟩ := h0.view
  have hcl := Lib.hid (log_cells v.blk)
  have C := Lib.hid (lnone_no g rs _ h0)
  have HRL : Hid ((zb 32).length = 32) := Lib.hid (zb_length 32)
  generalize rs.length = n at *
  have hrd : True := trivial
  clear v h0 h
  unfold arr8
  have hall := And.intro hbz (And.intro hw0 (And.intro hcl (And.intro C hrd)))
  clear hbz hw0 hcl C hrd
  by_cases hz1 : z < 0
  · clear hz
    go_enter Try.func121, Try.ntmps121
    go_upto_region 1 with fail
    generalize hW : World.alloc w _ = w0
    have hall : Blk w0 w.heap.size 25 (bvs (zb 32)) ∧ Below w.heap.size w w0 ∧ Hid (w0.cell? ⟨g, 0, none⟩ = some (.slice RA n rc) ∧ w0.cell? ⟨g, 1, none⟩ = some (.slice HA (n + 1) hc)) ∧ Hid (Calls Try.prog 154 #[.pointer (some ⟨g, 0, none⟩)] w0 fun e w' => e = .returned (.bool false) ∧ w0 = w') ∧ True := by rw [← hW]; exact hall
    clear hW
    obtain ⟨hbz, hw0, hcl, C, hrd⟩ := hall
    go_upto_region 3 with (first
      | (go_at_call 154; with_reducible refine C.out.mono ?_; rintro e w1 ⟨rfl, rfl⟩))
    clear C
    refine wp_region_lit ?_
    refine wpList_yield rfl _ (exec_move _ rfl) ?_
    simp only [Act.put, Act.eval, Array.getD_eq_getD_getElem?, List.getElem?_toArray, List.getElem?_cons_succ, List.getElem?_cons_zero, Option.getD_some, List.setIfInBounds_toArray, List.set_cons_zero, List.set_cons_succ]
    refine wpList_yield rfl ?vp20_1 ?yp20_1 ?_
    case yp20_1 => go_simp; try with_reducible rfl
    simp only [Act.put, List.setIfInBounds_toArray, List.set_cons_zero, List.set_cons_succ]
    refine wpList_yield rfl _ (exec_move _ rfl) ?_
    simp only [Act.put, Act.eval, Array.getD_eq_getD_getElem?, List.getElem?_toArray, List.getElem?_cons_succ, List.getElem?_cons_zero, Option.getD_some, List.setIfInBounds_toArray, List.set_cons_zero, List.set_cons_succ]
    refine no_implicit_lambda% (wpList_skip_w ?k21_3 ?_)
    case k21_3 => rfl
    simp only [Act.put, List.setIfInBounds_toArray, List.set_cons_zero, List.set_cons_succ]
    refine no_implicit_lambda% (wpList_skip_w ?k22_4 ?_)
    case k22_4 => rfl
    simp only [Act.put, List.setIfInBounds_toArray, List.set_cons_zero, List.set_cons_succ]
    refine no_implicit_lambda% (wpList_skip_w ?k23_5 ?_)
    case k23_5 => rfl
    simp only [Act.put, List.setIfInBounds_toArray, List.set_cons_zero, List.set_cons_succ]
    refine no_implicit_lambda% (wpList_skip_w ?k24_6 ?_)
    case k24_6 => rfl
    simp only [Act.put, List.setIfInBounds_toArray, List.set_cons_zero, List.set_cons_succ]
    refine no_implicit_lambda% (wpList_skip_w ?k25_7 ?_)
    case k25_7 => rfl
    simp only [Act.put, List.setIfInBounds_toArray, List.set_cons_zero, List.set_cons_succ]
    refine no_implicit_lambda% (wpList_skip_w ?k26_8 ?_)
    case k26_8 => rfl
    simp only [Act.put, List.setIfInBounds_toArray, List.set_cons_zero, List.set_cons_succ]
    refine no_implicit_lambda% (wpList_skip_w ?k27_9 ?_)
    case k27_9 => rfl
    simp only [Act.put, List.setIfInBounds_toArray, List.set_cons_zero, List.set_cons_succ]
    refine wpList_yield rfl ?vp28_10 ?yp28_10 ?_
    case yp28_10 => go_simp; try with_reducible rfl
    simp only [Act.put, List.setIfInBounds_toArray, List.set_cons_zero, List.set_cons_succ]
    refine wpList_nil ?_
    go_upto_region 4 with fail
    refine wp_region_lit ?_
    refine wpList_yield rfl _ (exec_build _ rfl (bvs (zb 32)).toArray (by kernel_rfl)) ?_
    simp only [Act.put, List.setIfInBounds_toArray, List.set_cons_zero, List.set_cons_succ]
    refine wpList_store_at at25w.i rfl (.tmp 4) (.tmp 20) rfl w.heap.size 0 25 (bvs (zb 32)) (bvs (zb 32)) rfl rfl hbz (by rw [bvs_length]; exact HRL.out) (by rw [bvs_length, zb_length]; omega) (bvs_one _) ?_
    intro w4 hb4 hg4 hs4
    (try simp only [Act.put, List.setIfInBounds_toArray, List.set_cons_zero, List.set_cons_succ])
    refine wpList_yield rfl _ (exec_assign _ rfl) ?_
    simp only [Act.put, Act.eval, Array.getD_eq_getD_getElem?, List.getElem?_toArray, List.getElem?_cons_succ, List.getElem?_cons_zero, Option.getD_some, List.setIfInBounds_toArray, List.set_cons_zero, List.set_cons_succ]
    refine wpList_nil ?_
    go_wp2_with fail
    (try simp only [Exit.inBlock, Exit.then])
    rw [splice_all _ _ (by rfl)] at hb4
    refine bodyPost_ret (ret_cell_tmp rfl at25w _ _ w.heap.size 25 (bvs (zb 32)) rfl hb4 (by rw [bvs_length]; exact HRL.out)) rfl ?_
    exact ⟨rfl, hw0.grown hg4 hw0.size (by intro k hk; cases hk; omega)⟩
  · have hz2 : (n : Int) ≤ z := by omega
    have hq1 : decide (z < 0) = false := by simp; omega
    have hq2 : decide ((n : Int) ≤ z) = true := by simp; omega
    clear hz hz1 hz2
    go_enter Try.func121, Try.ntmps121
    go_upto_region 1 with fail
    generalize hW : World.alloc w _ = w0
    have hall : Blk w0 w.heap.size 25 (bvs (zb 32)) ∧ Below w.heap.size w w0 ∧ Hid (w0.cell? ⟨g, 0, none⟩ = some (.slice RA n rc) ∧ w0.cell? ⟨g, 1, none⟩ = some (.slice HA (n + 1) hc)) ∧ Hid (Calls Try.prog 154 #[.pointer (some ⟨g, 0, none⟩)] w0 fun e w' => e = .returned (.bool false) ∧ w0 = w') ∧ True := by rw [← hW]; exact hall
    clear hW
    obtain ⟨hbz, hw0, hcl, C, hrd⟩ := hall
    go_upto_region 3 with (first
      | (go_at_call 154; with_reducible refine C.out.mono ?_; rintro e w1 ⟨rfl, rfl⟩))
    clear C
    refine wp_region_lit ?_
    refine wpList_yield rfl _ (exec_move _ rfl) ?_
    simp only [Act.put, Act.eval, Array.getD_eq_getD_getElem?, List.getElem?_toArray, List.getElem?_cons_succ, List.getElem?_cons_zero, Option.getD_some, List.setIfInBounds_toArray, List.set_cons_zero, List.set_cons_succ]
    refine wpList_yield rfl ?vp29_1 ?yp29_1 ?_
    case yp29_1 => go_simp; try with_reducible rfl
    simp only [Act.put, List.setIfInBounds_toArray, List.set_cons_zero, List.set_cons_succ]
    refine wpList_yield rfl _ (exec_move _ rfl) ?_
    simp only [Act.put, Act.eval, Array.getD_eq_getD_getElem?, List.getElem?_toArray, List.getElem?_cons_succ, List.getElem?_cons_zero, Option.getD_some, List.setIfInBounds_toArray, List.set_cons_zero, List.set_cons_succ]
    refine wpList_yield_w rfl _ (exec_move _ rfl) ?_
    simp only [Act.put, Act.eval, Array.getD_eq_getD_getElem?, List.getElem?_toArray, List.getElem?_cons_succ, List.getElem?_cons_zero, Option.getD_some, List.setIfInBounds_toArray, List.set_cons_zero, List.set_cons_succ]
    refine wpList_yield_w rfl _ (exec_move _ rfl) ?_
    simp only [Act.put, Act.eval, Array.getD_eq_getD_getElem?, List.getElem?_toArray, List.getElem?_cons_succ, List.getElem?_cons_zero, Option.getD_some, List.setIfInBounds_toArray, List.set_cons_zero, List.set_cons_succ]
    refine wpList_yield_w rfl _ (exec_nilck _ rfl _ rfl) ?_
    simp only [Act.put, List.setIfInBounds_toArray, List.set_cons_zero, List.set_cons_succ]
    refine wpList_yield_w rfl _ (exec_l0 _ rfl g rfl) ?_
    simp only [Act.put, List.setIfInBounds_toArray, List.set_cons_zero, List.set_cons_succ]
    refine wpList_yield_w rfl _ (exec_load132 _ rfl _ _ rfl hcl.out.1) ?_
    simp only [Act.put, List.setIfInBounds_toArray, List.set_cons_zero, List.set_cons_succ]
    refine wpList_yield_w rfl _ (exec_len132 _ rfl RA n rc rfl) ?_
    simp only [Act.put, List.setIfInBounds_toArray, List.set_cons_zero, List.set_cons_succ]
    refine wpList_yield_w rfl ?vp30_9 ?yp30_9 ?_
    case yp30_9 => go_simp; try with_reducible rfl
    simp only [Act.put, List.setIfInBounds_toArray, List.set_cons_zero, List.set_cons_succ]
    refine wpList_yield rfl ?vp31_10 ?yp31_10 ?_
    case yp31_10 => go_simp; try with_reducible rfl
    simp only [Act.put, List.setIfInBounds_toArray, List.set_cons_zero, List.set_cons_succ]
    refine wpList_nil ?_
    go_upto_region 4 with fail
    refine wp_region_lit ?_
    refine wpList_yield rfl _ (exec_build _ rfl (bvs (zb 32)).toArray (by kernel_rfl)) ?_
    simp only [Act.put, List.setIfInBounds_toArray, List.set_cons_zero, List.set_cons_succ]
    refine wpList_store_at at25w.i rfl (.tmp 4) (.tmp 20) rfl w.heap.size 0 25 (bvs (zb 32)) (bvs (zb 32)) rfl rfl hbz (by rw [bvs_length]; exact HRL.out) (by rw [bvs_length, zb_length]; omega) (bvs_one _) ?_
    intro w4 hb4 hg4 hs4
    (try simp only [Act.put, List.setIfInBounds_toArray, List.set_cons_zero, List.set_cons_succ])
    refine wpList_yield rfl _ (exec_assign _ rfl) ?_
    simp only [Act.put, Act.eval, Array.getD_eq_getD_getElem?, List.getElem?_toArray, List.getElem?_cons_succ, List.getElem?_cons_zero, Option.getD_some, List.setIfInBounds_toArray, List.set_cons_zero, List.set_cons_succ]
    refine wpList_nil ?_
    go_wp2_with fail
    (try simp only [Exit.inBlock, Exit.then])
    rw [splice_all _ _ (by rfl)] at hb4
    refine bodyPost_ret (ret_cell_tmp rfl at25w _ _ w.heap.size 25 (bvs (zb 32)) rfl hb4 (by rw [bvs_length]; exact HRL.out)) rfl ?_
    exact ⟨rfl, hw0.grown hg4 hw0.size (by intro k hk; cases hk; omega)⟩
end Go.Proofs.Ytehbahobkgoapaa
namespace Go.Proofs.Ytehbahobkgoapaa
open Go Go.RowKit
set_option linter.unusedSimpArgs false
set_option linter.unusedVariables false
theorem one132 : (Try.prog.info? 132).map (·.size) = some 1 := by kernel_rfl
theorem row_ne {S : Nat → Prop} {w w' : World} {g n base e z : Nat} {v : Value} {xs cs : List Value} (h : w.ownsRow base e z v n xs) (hb : Blk w g 145 cs) (he : e ≠ 145) : ∀ k, v.ownBlock = some k → k ≠ g := by
  intro k hk
  obtain ⟨_, ds, hd⟩ := ownsRow_blk h hk
  exact hd.ne hb he
/-- append(s, k): a digest behind a list of the log's own. -/
theorem wp_append_dig {w : World} {o : Oper} {a : Act} {K : Act → World → Prop} {Q : Exit → Act → World → Prop} (s x : Operand) (ho : o.op = .call { callee := .builtin .append, args := #[s, x], argTypes := #[132, 132] })
    (v : Value) (n : Nat) (ls : List (List UInt8)) (hs : a.eval s = v) (hown : w.ownsRow 0 25 32 v n (bvs ls.flatten)) (ad : Addr) (hx : a.eval x = .slice (some ad) 1 1) (k : List UInt8) (hk : k.length = 32) (hr : Rd w (some ad) (bvs k)) (hn : n ≤ 5000) (H : Nat) (hH : w.heap.size = H)
    (h : ∀ g cap w', w'.ownsRow 0 25 32 (.slice (some ⟨g, 0, none⟩) (n + 1) cap) (n + 1) (bvs (ls ++ [k]).flatten) → w.grownBy w' v.ownBlock → (v.ownBlock = some g ∨ g = H) → g < w'.heap.size → K (a.put o.dst (.slice (some ⟨g, 0, none⟩) (n + 1) cap)) w') : o.wp Try.prog a w K Q := by
  obtain ⟨i, hi, hz, hsz, hb⟩ := info_parts et25.i
  obtain ⟨ad', e, hc⟩ := hr (by rw [bvs_length]; omega)
  cases e
  refine wp_append_lies w s x 132 ho 0 25 i _ 32 32 Try.underlying132 hi hz hsz hb et25.c (by omega) v n (bvs ls.flatten) hs hown ad 1 1 (bvs k) hx (by rw [bvs_length, hk]) hc (bvs_one _) (by omega) (by unfold maxLen; omega) (by omega) (Nat.zero_le _) H hH ?_
  intro g cap w' h1 h2 h3 h4
  exact h g cap w' (by simpa [bvs] using h1) h2 h3 h4
/-- Half of it: the heads are written. -/
theorem add_half {S : Nat → Prop} {w w1 w2 : World} {g gh ch : Nat} {rs : List (List UInt8)} {vr vh : Value} {x : List UInt8} (p : LgP S w g rs vr vh) (hb1 : Below w.heap.size w w1) (hg : w1.grownBy w2 vh.ownBlock)
    (ho : w2.ownsRow 0 25 32 (.slice (some ⟨gh, 0, none⟩) (rs.length + 1 + 1) ch) (rs.length + 1 + 1) (bvs (heads rs ++ [x]).flatten)) (hat : vh.ownBlock = some gh ∨ gh = w1.heap.size) (hlt : gh < w2.heap.size) :
    Blk w2 g 145 [vr, vh] ∧ Blk (w2.setCell ⟨g, 1, none⟩ (.slice (some ⟨gh, 0, none⟩) (rs.length + 1 + 1) ch)) g 145 [vr, .slice (some ⟨gh, 0, none⟩) (rs.length + 1 + 1) ch] ∧ (w2.setCell ⟨g, 1, none⟩ (.slice (some ⟨gh, 0, none⟩) (rs.length + 1 + 1) ch)).ownsRow 0 25 32 vr rs.length (bvs rs.flatten) ∧
    (w2.setCell ⟨g, 1, none⟩ (.slice (some ⟨gh, 0, none⟩) (rs.length + 1 + 1) ch)).ownsRow 0 25 32 (.slice (some ⟨gh, 0, none⟩) (rs.length + 1 + 1) ch) (rs.length + 1 + 1) (bvs (heads rs ++ [x]).flatten) ∧ Fr S w (w2.setCell ⟨g, 1, none⟩ (.slice (some ⟨gh, 0, none⟩) (rs.length + 1 + 1) ch)) := by
  have hS := hb1.size
  have p1 := p.blk.below hb1 p.blk.lt
  have r1 := ownsRow_below p.r hb1
  have h1 := ownsRow_below p.h hb1
  have hneh : ∀ k, vh.ownBlock = some k → k ≠ g := row_ne (S := S) (w' := w) p.h p.blk (by decide)
  have hner : ∀ k, vr.ownBlock = some k → k ≠ g := row_ne (S := S) (w' := w) p.r p.blk (by decide)
  have p2 : Blk w2 g 145 [vr, vh] := p1.grown hg (fun e => hneh g e.symm rfl)
  have r2 : w2.ownsRow 0 25 32 vr rs.length (bvs rs.flatten) := r1.kept hg (by
    cases hv : vr.ownBlock with
    | none => exact .inl rfl
    | some k => exact .inr (fun e => p.ap k hv e.symm))
  have hgh : gh ≠ g := by
    obtain ⟨_, ds, hd⟩ := ownsRow_blk (g := gh) ho rfl
    exact hd.ne p2 (by decide)
  have hset : Fr (· = g) w2 (w2.setCell ⟨g, 1, none⟩ (.slice (some ⟨gh, 0, none⟩) (rs.length + 1 + 1) ch)) := Fr.setCell (p := ⟨g, 1, none⟩) (Fr.refl (· = g) w2) (.inl rfl) _
  refine ⟨p2, by simpa using p2.set_ 1 (.slice (some ⟨gh, 0, none⟩) (rs.length + 1 + 1) ch), ownsRow_fr r2 hset (fun k e => hner k e), ownsRow_fr ho hset (fun k e => by cases e; exact hgh), ?_⟩
  refine Fr.setCell (p := ⟨g, 1, none⟩) ?_ (.inl p.gS) _
  exact (Fr.of_below hb1).grown hg (fun k e => .inl (p.hS k e))
theorem add_done {S : Nat → Prop} {w w1 w3 w4 w5 : World} {g gh ch gr cr : Nat} {rs : List (List UInt8)} {vr vh : Value} {r : List UInt8} (p : LgP S w g rs vr vh) (lr : r.length = 32) (hf : rs.length < 4096)
    (hat : vh.ownBlock = some gh ∨ gh = w1.heap.size) (hlt : gh < w3.heap.size) (hs1 : w.heap.size ≤ w1.heap.size) (hb3 : Blk w3 g 145 [vr, .slice (some ⟨gh, 0, none⟩) (rs.length + 1 + 1) ch])
    (hr3 : w3.ownsRow 0 25 32 vr rs.length (bvs rs.flatten)) (hh3 : w3.ownsRow 0 25 32 (.slice (some ⟨gh, 0, none⟩) (rs.length + 1 + 1) ch) (rs.length + 1 + 1) (bvs (heads rs ++ [nextH (foldH firstH rs) r]).flatten)) (f3 : Fr S w w3)
    (hb34 : Below w3.heap.size w3 w4) (hg : w4.grownBy w5 vr.ownBlock) (ho : w5.ownsRow 0 25 32 (.slice (some ⟨gr, 0, none⟩) (rs.length + 1) cr) (rs.length + 1) (bvs (rs ++ [r]).flatten)) (hat2 : vr.ownBlock = some gr ∨ gr = w4.heap.size) (hlt2 : gr < w5.heap.size) :
    Blk w5 g 145 [vr, .slice (some ⟨gh, 0, none⟩) (rs.length + 1 + 1) ch] ∧
    Lg (fun k => S k ∨ (w.heap.size ≤ k ∧ k < (w5.setCell ⟨g, 0, none⟩ (.slice (some ⟨gr, 0, none⟩) (rs.length + 1) cr)).heap.size)) (w5.setCell ⟨g, 0, none⟩ (.slice (some ⟨gr, 0, none⟩) (rs.length + 1) cr)) g (rs ++ [r]) ∧ Fr S w (w5.setCell ⟨g, 0, none⟩ (.slice (some ⟨gr, 0, none⟩) (rs.length + 1) cr)) := by
  have hner : ∀ k, vr.ownBlock = some k → k ≠ g := row_ne (S := S) (w' := w) p.r p.blk (by decide)
  have hs3 := f3.size
  have hs4 := hb34.size
  have hs5 := hg.size
  have hghS : S gh ∨ w.heap.size ≤ gh := by
    rcases hat with e | e
    · exact .inl (p.hS _ e)
    · exact .inr (by omega)
  have hgrS : S gr ∨ w.heap.size ≤ gr := by
    rcases hat2 with e | e
    · exact .inl (p.rS _ e)
    · exact .inr (by omega)
  have hne : gr ≠ gh := by
    rcases hat2 with e | e
    · rcases hat with e' | e'
      · intro h; exact p.ap gr e (by rw [h]; exact e')
      · have := p.lt _ (p.rS _ e); omega
    · omega
  have p4 := hb3.below hb34 hb3.lt
  have h4 := ownsRow_below hh3 hb34
  have p5 : Blk w5 g 145 [vr, .slice (some ⟨gh, 0, none⟩) (rs.length + 1 + 1) ch] := p4.grown hg (fun e => hner g e.symm rfl)
  have hvne : (Value.slice (some ⟨gh, 0, none⟩) (rs.length + 1 + 1) ch).ownBlock ≠ vr.ownBlock := by
    intro e
    have e' : vr.ownBlock = some gh := e.symm
    rcases hat with e2 | e2
    · exact p.ap gh e' e2
    · have := p.lt _ (p.rS _ e'); omega
  have h5 := h4.kept hg (.inr hvne)
  have hgr : gr ≠ g := by
    obtain ⟨_, ds, hd⟩ := ownsRow_blk (g := gr) ho rfl
    exact hd.ne p5 (by decide)
  have hgh : gh ≠ g := by
    obtain ⟨_, ds, hd⟩ := ownsRow_blk (g := gh) hh3 rfl
    exact hd.ne hb3 (by decide)
  have hset : Fr (· = g) w5 (w5.setCell ⟨g, 0, none⟩ (.slice (some ⟨gr, 0, none⟩) (rs.length + 1) cr)) := Fr.setCell (p := ⟨g, 0, none⟩) (Fr.refl (· = g) w5) (.inl rfl) _
  have hsz : (w5.setCell ⟨g, 0, none⟩ (.slice (some ⟨gr, 0, none⟩) (rs.length + 1) cr)).heap.size = w5.heap.size := by simp [World.setCell]
  have hfr : Fr S w (w5.setCell ⟨g, 0, none⟩ (.slice (some ⟨gr, 0, none⟩) (rs.length + 1) cr)) := Fr.setCell (p := ⟨g, 0, none⟩) ((f3.below hb34).grown hg (fun k e => .inl (p.rS k e))) (.inl p.gS) _
  refine ⟨p5, ⟨_, _, by simpa using p5.set_ 0 (.slice (some ⟨gr, 0, none⟩) (rs.length + 1) cr), ?_, ?_, ?_, ?_, ?_, .inl p.gS, ?_, ?_, ?_⟩, hfr⟩
  · simpa using ownsRow_fr ho hset (fun k e => by cases e; exact hgr)
  · rw [heads_snoc]
    simpa using ownsRow_fr h5 hset (fun k e => by cases e; exact hgh)
  · intro k hk; cases hk
    rcases hgrS with h | h
    · exact .inl h
    · exact .inr ⟨h, by rw [hsz]; exact hlt2⟩
  · intro k hk; cases hk
    rcases hghS with h | h
    · exact .inl h
    · exact .inr ⟨h, by rw [hsz]; show gh < _; omega⟩
  · intro k hk; cases hk; intro e; injection e with e; exact hne e.symm
  · intro k hk
    rcases hk with hk | hk
    · have := p.lt k hk; rw [hsz]; omega
    · exact hk.2
  · intro l hl
    rcases List.mem_append.1 hl with h | h
    · exact p.each l h
    · simp at h; subst h; exact lr
  · simp; omega
set_option maxRecDepth 100000 in
set_option maxHeartbeats 1000000 in
theorem add_any {S : Nat → Prop} (g : Nat) (rs : List (List UInt8)) (r : List UInt8) (w : World) (h : Lg S w g rs) (lr : r.length = 32) (hf : rs.length < 4096) :
    Calls Try.prog 122 #[.pointer (some ⟨g, 0, none⟩), arr8 r] w fun e w' => ∃ S', e = .returned (.tuple #[.int .i64 ((rs.length + 1 : Nat) : Int), .int .i64 0]) ∧ Lg S' w' g (rs ++ [r]) ∧ (∀ k, S' k → S k ∨ w.heap.size ≤ k) ∧ Fr S w w' := by
  obtain ⟨vr, vh, p⟩ := h
  have hbr : Blk (w.alloc (.cells (bvs r).toArray 25)) w.heap.size 25 (bvs r) := Blk.new _ _ _
  have hw0 : Below w.heap.size w (w.alloc (.cells (bvs r).toArray 25)) := (Below.refl _ _).alloc (Nat.le_refl _) _
  have h0 : Lg S (w.alloc (.cells (bvs r).toArray 25)) g rs := Lg.below ⟨vr, vh, p⟩ hw0
  have C := Lib.hid (lnone_no g rs _ h0)
  have p0 := p.blk.below hw0 p.blk.lt
  have hh0 := ownsRow_below p.h hw0
  have hr0 := ownsRow_below p.r hw0
  obtain ⟨HA, hc, rfl, hl⟩ := own_hl hh0 (heads_length rs) (heads_each rs)
  obtain ⟨RA, rc, rfl, hl2⟩ := own_hl hr0 rfl p.each
  obtain ⟨ad, rfl, hrd, h32⟩ := hl.at rs.length (by omega)
  rw [heads_get rs rs.length (Nat.le_refl _), List.take_length] at hrd h32
  have CN := fun u => Lib.hid (cnext_any (foldH firstH rs) r u h32 lr)
  have LR := Lib.hid lr
  have HX : Hid (shaL (5 :: (foldH firstH rs ++ r)) = nextH (foldH firstH rs) r) := Lib.hid rfl
  have HXL : Hid ((nextH (foldH firstH rs) r).length = 32) := Lib.hid (nextH_length _ _)
  have HFL := Lib.hid h32
  have P := Lib.hid p
  rw [HX.out] at CN
  have HALF := fun (x : List UInt8) (w1 w2 : World) (gh ch : Nat) (a1 : Below w.heap.size w w1) a2 a3 a4 a5 => add_half (x := x) (w1 := w1) (w2 := w2) (gh := gh) (ch := ch) p a1 a2 a3 a4 a5
  have DONE := fun (w1 w3 w4 w5 : World) (gh ch gr cr : Nat) a1 a2 a3 a4 a5 a6 a7 a8 a9 a10 a11 a12 => add_done (w1 := w1) (w3 := w3) (w4 := w4) (w5 := w5) (gh := gh) (ch := ch) (gr := gr) (cr := cr) p lr hf a1 a2 a3 a4 a5 a6 a7 a8 a9 a10 a11 a12
  have NEG : ∀ {k : Nat}, (Value.slice (some ad) (rs.length + 1) hc).ownBlock = some k → k ≠ g := fun {k} => row_ne (S := S) (w' := w) p.h p.blk (by decide) k
  have NEZ : (Value.slice (some ad) (rs.length + 1) hc).ownBlock ≠ some w.heap.size := fun e => by have := p.lt _ (p.hS _ e); omega
  have NRG : ∀ {k : Nat}, (Value.slice RA rs.length rc).ownBlock = some k → k ≠ g := fun {k} => row_ne (S := S) (w' := w) p.r p.blk (by decide) k
  have NRZ : (Value.slice RA rs.length rc).ownBlock ≠ some w.heap.size := fun e => by have := p.lt _ (p.rS _ e); omega
  generalize nextH (foldH firstH rs) r = x at *
  generalize foldH firstH rs = fo at *
  generalize hnd : rs.length = n at *
  have hge : ¬ (4096 : Int) ≤ (n : Int) := by omega
  unfold arr8 at *
  have hall := And.intro hbr (And.intro hw0 (And.intro p0 (And.intro C (And.intro hrd hh0))))
  clear hbr hw0 h0 C p0 hh0 hr0 hl hl2 hrd h32
  go_enter Try.func122, Try.ntmps122
  go_upto_region 1 with fail
  generalize hW : World.alloc w _ = w0
  have hall : Blk w0 w.heap.size 25 (bvs r) ∧ Below w.heap.size w w0 ∧ Blk w0 g 145 [.slice RA n rc, .slice (some ad) (n + 1) hc] ∧ Hid (Calls Try.prog 154 #[.pointer (some ⟨g, 0, none⟩)] w0 fun e w' => e = .returned (.bool false) ∧ w0 = w') ∧ Rd w0 (some (ad.add (n * 32))) (bvs fo) ∧ w0.ownsRow 0 25 32 (.slice (some ad) (n + 1) hc) (n + 1) (bvs (heads rs).flatten) := by rw [← hW]; exact hall
  clear hW
  obtain ⟨hbr, hw0, p0, C, hrd, hh0⟩ := hall
  have hcl := Lib.hid (log_cells p0)
  go_upto_region 3 with (first
    | (go_at_call 154; with_reducible refine C.out.mono ?_; rintro e w1 ⟨rfl, rfl⟩))
  refine wp_region_lit ?_
  refine wpList_yield rfl _ (exec_move _ rfl) ?_
  simp only [Act.put, Act.eval, Array.getD_eq_getD_getElem?, List.getElem?_toArray, List.getElem?_cons_succ, List.getElem?_cons_zero, Option.getD_some, List.setIfInBounds_toArray, List.set_cons_zero, List.set_cons_succ]
  refine wpList_yield rfl _ (exec_nilck _ rfl _ rfl) ?_
  simp only [Act.put, List.setIfInBounds_toArray, List.set_cons_zero, List.set_cons_succ]
  refine wpList_yield rfl _ (exec_l0 _ rfl g rfl) ?_
  simp only [Act.put, List.setIfInBounds_toArray, List.set_cons_zero, List.set_cons_succ]
  refine wpList_yield rfl _ (exec_load132 _ rfl _ _ rfl hcl.out.1) ?_
  simp only [Act.put, List.setIfInBounds_toArray, List.set_cons_zero, List.set_cons_succ]
  refine wpList_yield rfl _ (exec_len132 _ rfl RA n rc rfl) ?_
  simp only [Act.put, List.setIfInBounds_toArray, List.set_cons_zero, List.set_cons_succ]
  refine wpList_yield rfl ?vp1_5 ?yp1_5 ?_
  case yp1_5 => go_simp; try with_reducible rfl
  simp only [Act.put, List.setIfInBounds_toArray, List.set_cons_zero, List.set_cons_succ]
  refine wpList_nil ?_
  go_upto_region 5 with fail
  clear C hcl
  generalize hgz : w.heap.size = gz at *
  refine rg_begin (fun W => Blk W g 145 [.slice RA n rc, .slice (some ad) (n + 1) hc] ∧ Blk W gz 25 (bvs r)) [22] [15, 17, 18, 19, 20, 21, 22] [0, 1, 2, 3, 4, 5, 6, 7, 8, 9, 10, 11, 12, 13, 14, 16, 15, 17, 18, 19, 20, 21, 22] 0 mixed (by kernel_rfl) (fun _ _ _ _ e hh => ⟨e.symm.trans hh.1, hh.2⟩) ?_
  simp only [pick, List.map_cons, List.map_nil, List.getD_cons_zero, List.getD_cons_succ]
  have hS : (fun W => Blk W g 145 [.slice RA n rc, .slice (some ad) (n + 1) hc] ∧ Blk W gz 25 (bvs r)) _ := ⟨p0.drew, hbr.drew⟩
  refine rg_take (v := ?v2_0) rfl rfl hS ?y2_0 ?_
  case y2_0 => intro W hW; (try subst hW); go_simp; try with_reducible rfl
  simp only [Act.put, List.setIfInBounds_toArray, List.set_cons_zero, List.set_cons_succ]
  refine rg_take (v := ?v2_1) rfl rfl hS ?y2_1 ?_
  case y2_1 => intro W hW; (try subst hW); go_simp; try with_reducible rfl
  simp only [Act.put, List.setIfInBounds_toArray, List.set_cons_zero, List.set_cons_succ]
  refine rg_take rfl rfl hS (fun W hW => exec_nilck _ rfl _ rfl) ?_
  simp only [Act.put, List.setIfInBounds_toArray, List.set_cons_zero, List.set_cons_succ]
  refine rg_take rfl rfl hS (fun W hW => exec_l1 _ rfl g rfl) ?_
  simp only [Act.put, List.setIfInBounds_toArray, List.set_cons_zero, List.set_cons_succ]
  refine rg_take rfl rfl hS (fun W hW => exec_load132 _ rfl _ _ rfl (log_cells hW.1).2) ?_
  simp only [Act.put, List.setIfInBounds_toArray, List.set_cons_zero, List.set_cons_succ]
  refine rg_take (v := ?v2_5) rfl rfl hS ?y2_5 ?_
  case y2_5 => intro W hW; (try subst hW); go_simp; try with_reducible rfl
  simp only [Act.put, List.setIfInBounds_toArray, List.set_cons_zero, List.set_cons_succ]
  refine rg_take rfl rfl hS (fun W hW => exec_nilck _ rfl _ rfl) ?_
  simp only [Act.put, List.setIfInBounds_toArray, List.set_cons_zero, List.set_cons_succ]
  refine rg_take rfl rfl hS (fun W hW => exec_l1 _ rfl g rfl) ?_
  simp only [Act.put, List.setIfInBounds_toArray, List.set_cons_zero, List.set_cons_succ]
  refine rg_take rfl rfl hS (fun W hW => exec_load132 _ rfl _ _ rfl (log_cells hW.1).2) ?_
  simp only [Act.put, List.setIfInBounds_toArray, List.set_cons_zero, List.set_cons_succ]
  refine rg_take (v := ?v2_9) rfl rfl hS ?y2_9 ?_
  case y2_9 => intro W hW; (try subst hW); go_simp; try with_reducible rfl
  simp only [Act.put, List.setIfInBounds_toArray, List.set_cons_zero, List.set_cons_succ]
  refine rg_take rfl rfl hS (fun W hW => exec_nilck _ rfl _ rfl) ?_
  simp only [Act.put, List.setIfInBounds_toArray, List.set_cons_zero, List.set_cons_succ]
  refine rg_take rfl rfl hS (fun W hW => exec_l0 _ rfl g rfl) ?_
  simp only [Act.put, List.setIfInBounds_toArray, List.set_cons_zero, List.set_cons_succ]
  refine rg_take rfl rfl hS (fun W hW => exec_load132 _ rfl _ _ rfl (log_cells hW.1).1) ?_
  simp only [Act.put, List.setIfInBounds_toArray, List.set_cons_zero, List.set_cons_succ]
  refine rg_take rfl rfl hS (fun W hW => exec_len132 _ rfl RA n rc rfl) ?_
  simp only [Act.put, List.setIfInBounds_toArray, List.set_cons_zero, List.set_cons_succ]
  refine rg_take rfl rfl hS (fun W hW => exec_siaz Try.underlying132 sz25 _ _ rfl ad (n + 1) hc n _ rfl rfl (by omega)) ?_
  simp only [Act.put, List.setIfInBounds_toArray, List.set_cons_zero, List.set_cons_succ]
  refine rg_take rfl rfl hS (fun W hW => exec_load_agg at25w (.tmp 3) rfl gz 25 (bvs r) rfl hW.2 (by rw [bvs_length]; exact LR.out)) ?_
  simp only [Act.put, List.setIfInBounds_toArray, List.set_cons_zero, List.set_cons_succ]
  refine rg_one rfl rfl ?_; intro K hK
  refine wp_pure (exec_load_rd at25w _ rfl _ (bvs fo) rfl hrd.drew (by omega) (by rw [bvs_length]; exact HFL.out)) ?_
  refine hK _ _ (fun _ => hS) ?_; clear hK
  simp only [Act.put, List.setIfInBounds_toArray, List.set_cons_zero, List.set_cons_succ]
  refine rg_one rfl rfl ?_; intro K hK; go_simp
  with_reducible refine (CN _).out.mono ?_
  rintro e w2 ⟨rfl, hw2⟩
  have hS1 := And.intro (hS.1.below hw2 hS.1.lt) (hS.2.below hw2 hS.2.lt)
  refine hK _ _ (fun _ => hS1) ?_; clear hK
  refine rg_one rfl rfl ?_; intro K hK
  refine wp_build_dig1 x HXL.out _ rfl rfl ?_
  have hS2 := And.intro (hS1.1.alloc (.cells (bvs x).toArray 25)) (hS1.2.alloc (.cells (bvs x).toArray 25))
  have hx2 : Blk (w2.alloc (.cells (bvs x).toArray 25)) w2.heap.size 25 (bvs x) := Blk.new _ _ _
  have hB1 : Below w0.heap.size w0 (w2.alloc (.cells (bvs x).toArray 25)) := ((Below.refl w0.heap.size w0).drew.trans hw2).alloc hw2.size _
  refine hK _ _ (fun _ => hS2) ?_; clear hK
  generalize World.alloc w2 _ = w3 at *
  generalize w2.heap.size = gy at *
  refine rg_one rfl rfl ?_; intro K hK
  refine wp_append_dig (.tmp 18) (.tmp 32) rfl (.slice (some ad) (n + 1) hc) (n + 1) (heads rs) rfl (ownsRow_below hh0 hB1) ⟨gy, 0, none⟩ rfl x HXL.out (Rd.of_blk0 (es := []) (by simpa using hx2)) (by omega) w3.heap.size rfl ?_
  intro gh ch w4 ho4 hg4 hat4 hlt4
  have hS3 := And.intro (hS2.1.grown hg4 (fun e => NEG (by rw [← e]) rfl)) (hS2.2.grown hg4 (fun e => NEZ (by rw [← e])))
  refine hK _ _ (fun _ => hS3) ?_; clear hK
  refine rg_one rfl rfl ?_; intro K hK
  refine wp_pure (exec_nilck _ rfl _ rfl) ?_
  refine hK _ _ (fun _ => hS3) ?_; clear hK
  simp only [Act.put, List.setIfInBounds_toArray, List.set_cons_zero, List.set_cons_succ]
  refine rg_one rfl rfl ?_; intro K hK
  refine wp_pure (exec_l1 _ rfl g rfl) ?_
  refine hK _ _ (fun _ => hS3) ?_; clear hK
  simp only [Act.put, List.setIfInBounds_toArray, List.set_cons_zero, List.set_cons_succ]
  refine rg_one rfl rfl ?_; intro K hK
  refine wp_store_one one132 _ _ rfl g 1 145 _ (.slice (some ⟨gh, 0, none⟩) (n + 1 + 1) ch) rfl rfl rfl hS3.1 (by simp) ?_
  refine hK _ _ (fun h => by cases h) ?_; clear hK
  refine rg_done (by kernel_rfl) ?_
  have hs03 := hB1.size
  have hgw : gz ≤ w0.heap.size := by rw [← hgz]; exact hw0.size
  have HB1 : Hid (Below gz w w3) := Lib.hid (hw0.trans (hB1.mono hgw))
  have hs3 := hg4.size
  have hgne : gz ≠ g := by have := p.blk.lt; omega
  have HF := Lib.hid (HALF x w3 w4 gh ch HB1.out hg4 ho4 hat4 hlt4)
  clear HALF hS hS1 hx2 p0 hh0 hrd hbr CN HX HXL HFL hall
  have hz4 := hS3.2.far (p := ⟨g, 1, none⟩) hgne (.slice (some ⟨gh, 0, none⟩) (n + 1 + 1) ch)
  have p5 := HF.out.2.1
  have hsw5 : (World.setCell w4 ⟨g, 1, none⟩ (.slice (some ⟨gh, 0, none⟩) (n + 1 + 1) ch)).heap.size = w4.heap.size := by simp [World.setCell]
  generalize hW5 : World.setCell w4 _ _ = w5 at *
  have hlt5 : Hid (gh < w5.heap.size) := Lib.hid (by rw [hsw5]; exact hlt4)
  clear hsw5 hW5
  go_upto_region 6 with fail
  refine rg_begin (fun W => Blk W g 145 [.slice RA n rc, .slice (some ⟨gh, 0, none⟩) (n + 1 + 1) ch] ∧ Blk W gz 25 (bvs r)) [10] [6, 7, 8, 9, 10] [0, 1, 2, 3, 4, 5, 6, 7, 8, 9, 10] 0 mixed (by kernel_rfl) (fun _ _ _ _ e hh => ⟨e.symm.trans hh.1, hh.2⟩) ?_
  simp only [pick, List.map_cons, List.map_nil, List.getD_cons_zero, List.getD_cons_succ]
  have hS6 : (fun W => Blk W g 145 [.slice RA n rc, .slice (some ⟨gh, 0, none⟩) (n + 1 + 1) ch] ∧ Blk W gz 25 (bvs r)) _ := ⟨p5.drew, hz4.drew⟩
  refine rg_take (v := ?v3_0) rfl rfl hS6 ?y3_0 ?_
  case y3_0 => intro W hW; (try subst hW); go_simp; try with_reducible rfl
  simp only [Act.put, List.setIfInBounds_toArray, List.set_cons_zero, List.set_cons_succ]
  refine rg_take (v := ?v3_1) rfl rfl hS6 ?y3_1 ?_
  case y3_1 => intro W hW; (try subst hW); go_simp; try with_reducible rfl
  simp only [Act.put, List.setIfInBounds_toArray, List.set_cons_zero, List.set_cons_succ]
  refine rg_take rfl rfl hS6 (fun W hW => exec_nilck _ rfl _ rfl) ?_
  simp only [Act.put, List.setIfInBounds_toArray, List.set_cons_zero, List.set_cons_succ]
  refine rg_take rfl rfl hS6 (fun W hW => exec_l0 _ rfl g rfl) ?_
  simp only [Act.put, List.setIfInBounds_toArray, List.set_cons_zero, List.set_cons_succ]
  refine rg_take rfl rfl hS6 (fun W hW => exec_load132 _ rfl _ _ rfl (log_cells hW.1).1) ?_
  simp only [Act.put, List.setIfInBounds_toArray, List.set_cons_zero, List.set_cons_succ]
  refine rg_take rfl rfl hS6 (fun W hW => exec_load_agg at25w (.tmp 3) rfl gz 25 (bvs r) rfl hW.2 (by rw [bvs_length]; exact LR.out)) ?_
  simp only [Act.put, List.setIfInBounds_toArray, List.set_cons_zero, List.set_cons_succ]
  refine rg_one rfl rfl ?_; intro K hK
  refine wp_build_dig1 r LR.out _ rfl rfl ?_
  have hS7 := And.intro (hS6.1.alloc (.cells (bvs r).toArray 25)) (hS6.2.alloc (.cells (bvs r).toArray 25))
  have hx7 : Blk (w5.drew.alloc (.cells (bvs r).toArray 25)) w5.drew.heap.size 25 (bvs r) := Blk.new _ _ _
  have hB7 : Below w5.heap.size w5 (w5.drew.alloc (.cells (bvs r).toArray 25)) := (Below.refl w5.heap.size w5).drew.alloc (Nat.le_refl _) _
  refine hK _ _ (fun _ => hS7) ?_; clear hK
  generalize World.alloc w5.drew _ = w7 at *
  generalize w5.drew.heap.size = gy2 at *
  refine rg_one rfl rfl ?_; intro K hK
  refine wp_append_dig (.tmp 40) (.tmp 42) rfl (.slice RA n rc) n rs rfl (ownsRow_below HF.out.2.2.1 hB7) ⟨gy2, 0, none⟩ rfl r LR.out (Rd.of_blk0 (es := []) (by simpa using hx7)) (by omega) w7.heap.size rfl ?_
  intro gr cr w8 ho8 hg8 hat8 hlt8
  have hS8 := And.intro (hS7.1.grown hg8 (fun e => NRG (by rw [← e]) rfl)) (hS7.2.grown hg8 (fun e => NRZ (by rw [← e])))
  refine hK _ _ (fun _ => hS8) ?_; clear hK
  refine rg_one rfl rfl ?_; intro K hK
  refine wp_pure (exec_nilck _ rfl _ rfl) ?_
  refine hK _ _ (fun _ => hS8) ?_; clear hK
  simp only [Act.put, List.setIfInBounds_toArray, List.set_cons_zero, List.set_cons_succ]
  refine rg_one rfl rfl ?_; intro K hK
  refine wp_pure (exec_l0 _ rfl g rfl) ?_
  refine hK _ _ (fun _ => hS8) ?_; clear hK
  simp only [Act.put, List.setIfInBounds_toArray, List.set_cons_zero, List.set_cons_succ]
  refine rg_one rfl rfl ?_; intro K hK
  refine wp_store_one one132 _ _ rfl g 0 145 _ (.slice (some ⟨gr, 0, none⟩) (n + 1) cr) rfl rfl rfl hS8.1 (by simp) ?_
  refine hK _ _ (fun h => by cases h) ?_; clear hK
  refine rg_done (by kernel_rfl) ?_
  have D := DONE w3 w5 w7 w8 gh ch gr cr hat4 hlt5.out (by have := hB1.size; omega) p5 HF.out.2.2.1 HF.out.2.2.2.1 HF.out.2.2.2.2 hB7 hg8 ho8 hat8 hlt8
  have h9 := Lib.hid D.2
  have hb9 := hS8.1.set_ 0 (.slice (some ⟨gr, 0, none⟩) (n + 1) cr)
  clear DONE D hS6 hS7 hS8 hx7 hB7 hz4 p5 HF hg8 ho8 hat8 hlt8
  generalize World.setCell w8 _ _ = w9 at *
  have hcl := Lib.hid (log_cells hb9).1
  go_upto_region 7 with fail
  refine wp_region_lit ?_
  refine wpList_yield rfl _ (exec_move _ rfl) ?_
  simp only [Act.put, Act.eval, Array.getD_eq_getD_getElem?, List.getElem?_toArray, List.getElem?_cons_succ, List.getElem?_cons_zero, Option.getD_some, List.setIfInBounds_toArray, List.set_cons_zero, List.set_cons_succ]
  refine wpList_yield rfl _ (exec_nilck _ rfl _ rfl) ?_
  simp only [Act.put, List.setIfInBounds_toArray, List.set_cons_zero, List.set_cons_succ]
  refine wpList_yield rfl _ (exec_l0 _ rfl g rfl) ?_
  simp only [Act.put, List.setIfInBounds_toArray, List.set_cons_zero, List.set_cons_succ]
  refine wpList_yield rfl _ (exec_load132 _ rfl _ _ rfl hcl.out) ?_
  simp only [Act.put, List.setIfInBounds_toArray, List.set_cons_zero, List.set_cons_succ]
  refine wpList_yield rfl _ (exec_len132 _ rfl (some ⟨gr, 0, none⟩) (n + 1) cr rfl) ?_
  simp only [Act.put, List.setIfInBounds_toArray, List.set_cons_zero, List.set_cons_succ]
  refine wpList_yield rfl _ (exec_assign _ rfl) ?_
  simp only [Act.put, Act.eval, Array.getD_eq_getD_getElem?, List.getElem?_toArray, List.getElem?_cons_succ, List.getElem?_cons_zero, Option.getD_some, List.setIfInBounds_toArray, List.set_cons_zero, List.set_cons_succ]
  refine wpList_yield rfl _ (exec_assign _ rfl) ?_
  simp only [Act.put, Act.eval, Array.getD_eq_getD_getElem?, List.getElem?_toArray, List.getElem?_cons_succ, List.getElem?_cons_zero, Option.getD_some, List.setIfInBounds_toArray, List.set_cons_zero, List.set_cons_succ]
  refine wpList_nil ?_
  go_wp2_with fail
  go_ret2
  exact ⟨_, rfl, h9.out.1, fun k hk => hk.elim .inl (fun h => .inr (by rw [hgz]; exact h.1)), h9.out.2⟩
end Go.Proofs.Ytehbahobkgoapaa
namespace Go.Proofs.Ytehbahobkgoapaa
open Go Go.RowKit
set_option linter.unusedSimpArgs false
set_option linter.unusedVariables false
set_option linter.unusedSectionVars false
/-- pv is no state, in every world that meets N. -/
def NoSt (N : World → Prop) (pv : Value) : Prop := ∀ u, N u → Calls Try.prog 142 #[pv] u fun e w' => e = .returned (.bool true) ∧ u = w'
section
variable {N : World → Prop} {pv : Value} (C : NoSt N pv) (w : World) (hN : N w)
include C hN
end
end Go.Proofs.Ytehbahobkgoapaa
namespace Go.Proofs.Ytehbahobkgoapaa
open Go Go.RowKit
set_option linter.unusedSimpArgs false
set_option linter.unusedVariables false
theorem add_is {S : Nat → Prop} (g : Nat) (rs : List (List UInt8)) (r : List UInt8) (w : World) (h : Lg S w g rs) (lr : r.length = 32) (hf : rs.length < 4096) (z : Int) (hz : z = ((rs.length + 1 : Nat) : Int)) :
    Calls Try.prog 122 #[.pointer (some ⟨g, 0, none⟩), arr8 r] w fun e w' => ∃ S', e = .returned (.tuple #[.int .i64 z, .int .i64 0]) ∧ Lg S' w' g (rs ++ [r]) ∧ (∀ k, S' k → S k ∨ w.heap.size ≤ k) ∧ Fr S w w' := by
  subst hz; exact add_any g rs r w h lr hf
theorem loglen_is {S : Nat → Prop} (g : Nat) (rs : List (List UInt8)) (w : World) (h : Lg S w g rs) (z : Int) (hz : z = (rs.length : Int)) : Calls Try.prog 116 #[.pointer (some ⟨g, 0, none⟩)] w fun e w' => e = .returned (.int .i64 z) ∧ w = w' := by
  subst hz; exact loglen_any g rs w h
theorem loghead_is {S : Nat → Prop} (g : Nat) (rs : List (List UInt8)) (w : World) (h : Lg S w g rs) (d : List UInt8) (hd : foldH firstH rs = d) : Calls Try.prog 120 #[.pointer (some ⟨g, 0, none⟩)] w fun e w' => e = .returned (arr8 d) ∧ Below w.heap.size w w' := by
  subst hd; exact loghead_any g rs w h
theorem below_fr {B : Nat} {S : Nat → Prop} {w a b : World} (h : Below B w a) (f : Fr S a b) (hB : B ≤ a.heap.size) (hS : ∀ k, S k → B ≤ k) : Below B w b :=
  ⟨f.os.trans h.os, f.tape.trans h.tape, f.output.trans h.output, Nat.le_trans h.size f.size, fun k hk => (f.block k (by omega) (fun s => by have := hS k s; omega)).trans (h.block k hk)⟩
end Go.Proofs.Ytehbahobkgoapaa
namespace Go.Proofs.Ytehbahobkgoapaa
open Go Go.RowKit
set_option linter.unusedSimpArgs false
set_option linter.unusedVariables false
theorem flat32_drop (ls : List (List UInt8)) (h : ∀ l ∈ ls, l.length = 32) (k : Nat) (hk : k ≤ ls.length) : ls.flatten.drop (32 * k) = (ls.drop k).flatten := by
  have h1 : ls.flatten = (ls.take k).flatten ++ (ls.drop k).flatten := by rw [← List.flatten_append, List.take_append_drop]
  have h2 : (ls.take k).flatten.length = 32 * k := by rw [flat32_len _ (fun l hl => h l (List.mem_of_mem_take hl)), List.length_take]; omega
  rw [h1, List.drop_append, List.drop_of_length_le (by omega), h2]
  simp
/-- Some of a list. -/
def midL (ls : List (List UInt8)) (l h : Nat) : List (List UInt8) := (ls.drop l).take (h - l)
theorem midL_length (ls : List (List UInt8)) (l h n : Nat) (hn : ls.length = n) (h1 : l ≤ h) (h2 : h ≤ n) : (midL ls l h).length = h - l := by unfold midL; rw [List.length_take, List.length_drop]; omega
theorem Hl.mid {w : World} {A : Option Addr} {n c : Nat} {ls : List (List UInt8)} (x : Hl w A n c ls) (l h : Nat) (h1 : l ≤ h) (h2 : h ≤ n) : Hl w (cutA A c l 32) (h - l) (c - l) (midL ls l h) := by
  have hl := x.len
  have hm := x.max
  have hc := x.cap
  have he : ∀ y ∈ midL ls l h, y.length = 32 := fun y hy => x.each y (List.mem_of_mem_drop (List.mem_of_mem_take hy))
  refine ⟨midL_length ls l h n hl h1 h2, by omega, by omega, ?_, he⟩
  have h3 := x.rd.cutA (c := c) (lo := l) (z := 32) (by rw [bvs_length, flat32_len ls x.each, hl]; omega) (32 * (h - l))
  have e : ((bvs ls.flatten).drop (l * 32)).take (32 * (h - l)) = bvs (midL ls l h).flatten := by
    unfold bvs midL
    rw [← List.map_drop, ← List.map_take, Nat.mul_comm l 32, flat32_drop ls x.each l (by omega)]
    have h4 := flat32_take (ls.drop l) (fun y hy => x.each y (List.mem_of_mem_drop hy)) (h - l) (by rw [List.length_drop]; omega)
    rw [h4]
  rwa [e] at h3
/-- Where a digest stands first; the length where it does not stand. -/
def fidx (ls : List (List UInt8)) (h : List UInt8) : Nat := ls.findIdx (fun x => x == h)
theorem fidx_at (ls : List (List UInt8)) (h : List UInt8) (k : Nat) (hk : k < ls.length) (hle : k ≤ fidx ls h) (he : ls.getD k [] = h) : fidx ls h = k := by
  have h1 : fidx ls h ≤ k := by
    refine Nat.le_of_not_lt fun hlt => ?_
    have := List.not_of_lt_findIdx hlt
    rw [List.getD_eq_getElem?_getD, List.getElem?_eq_getElem hk] at he
    simp at he
    simp [he] at this
  omega
theorem fidx_past (ls : List (List UInt8)) (h : List UInt8) (k : Nat) (hk : k < ls.length) (hle : k ≤ fidx ls h) (he : ls.getD k [] ≠ h) : k + 1 ≤ fidx ls h := by
  refine Nat.succ_le_of_lt (Nat.lt_of_le_of_ne hle fun e => ?_)
  have hlt : fidx ls h < ls.length := by omega
  have h2 := List.findIdx_getElem (w := hlt)
  apply he
  subst e
  rw [List.getD_eq_getElem?_getD, List.getElem?_eq_getElem hk]
  exact eq_of_beq h2
set_option maxRecDepth 100000 in
set_option maxHeartbeats 1000000 in
theorem cloneH_any (A : Option Addr) (n c : Nat) (ls : List (List UInt8)) (w : World) (h : Hl w A n c ls) (hn : n ≤ 4398046511104) :
    Calls Try.prog 155 #[.slice A n c] w fun e w' => ∃ v, e = .returned v ∧ w'.ownsRow w.heap.size 25 32 v n (bvs ls.flatten) ∧ Below w.heap.size w w' := by
  have hf : ls.flatten.length = n * 32 := by rw [flat32_len ls h.each, h.len]; omega
  have hown : (w.alloc (.cells #[] 25)).ownsRow w.heap.size 25 32 (.slice (some ⟨w.heap.size, 0, none⟩) 0 0) 0 [] := ownsRow_of_blk w.heap.size 32 0 (by simpa using Blk.new w 25 []) (Nat.le_refl _) rfl (by omega)
  have hw0 : Below w.heap.size w (w.alloc (.cells #[] 25)) := (Below.refl _ _).alloc (Nat.le_refl _) _
  have hrd := h.rd.alloc (.cells #[] 25)
  cases A with
  | none =>
    have hn0 : n = 0 := by
      rcases Nat.eq_zero_or_pos n with e | e
      · exact e
      · obtain ⟨ad, hh, _⟩ := h.rd (by rw [bvs_length, hf]; omega); cases hh
    have hl0 : ls = [] := List.eq_nil_of_length_eq_zero (by rw [h.len, hn0])
    have HF := Lib.hid hl0
    have HN := Lib.hid hn0
    clear h hf hown hw0 hrd hl0 hn0 hn
    have q : ∀ u : World, (binOp .eql 132 (.slice none n c) (.slice none 0 0)).run Try.prog u = .ok (.bool true) u := fun u => Lib.run_eql_slice_nil u 132 25 none n c 0 0 Try.underlying132
    go_enter Try.func155, Try.ntmps155
    go_wp2_with fail
    go_ret
    refine ⟨_, rfl, ?_, Below.refl _ _⟩
    rw [HF.out, HN.out]
    exact World.ownsRow_nil _ _ _ _
  | some ad =>
    clear h
    have q : ∀ u : World, (binOp .eql 132 (.slice (some ad) n c) (.slice none 0 0)).run Try.prog u = .ok (.bool false) u := fun u => Lib.run_eql_slice_nil u 132 25 (some ad) n c 0 0 Try.underlying132
    go_enter Try.func155, Try.ntmps155
    go_wp2_with ((with_reducible refine at_dst 7 ?_); refine wpList_append_row Try.underlying132 et25 rfl (.tmp 5) (.tmp 6) rfl w.heap.size _ 0 [] rfl hown (some ad) n c (bvs ls.flatten) rfl (by rw [bvs_length, hf]) hrd (bvs_one _) (by unfold maxLen; omega) (by omega) hw0.size ?_; intro v1 w1 ho1 hg1)
    go_ret
    refine ⟨v1, rfl, by simpa using ho1, hw0.grown hg1 hw0.size (fun g hg => ?_)⟩
    have e : some w.heap.size = some g := hg
    exact Nat.le_of_eq (Option.some.inj e)
def idxZ (ls : List (List UInt8)) (h : List UInt8) : Int := if fidx ls h < ls.length then (fidx ls h : Int) else -1
theorem idxZ_in (ls : List (List UInt8)) (h : List UInt8) (k : Nat) (hk : k < ls.length) (e : fidx ls h = k) : idxZ ls h = (k : Int) := by unfold idxZ; rw [e, if_pos hk]
theorem idxZ_out (ls : List (List UInt8)) (h : List UInt8) (e : ls.length ≤ fidx ls h) : idxZ ls h = -1 := by unfold idxZ; rw [if_neg (by omega)]
set_option maxRecDepth 100000 in
set_option maxHeartbeats 4000000 in
theorem index_any (A : Option Addr) (n c : Nat) (ls : List (List UInt8)) (h : List UInt8) (w : World) (hl : Hl w A n c ls) (lh : h.length = 32) :
    Calls Try.prog 156 #[.slice A n c, .agg (bvs h).toArray] w fun e w' => e = .returned (.int .i64 (idxZ ls h)) ∧ Below w.heap.size w w' := by
  have HN := Lib.hid hl.len
  have HL := Lib.hid lh
  have hnm : n ≤ maxLen := Nat.le_trans hl.cap hl.max
  unfold maxLen at hnm
  have hbh : Blk (w.alloc (.cells (bvs h).toArray 25)) w.heap.size 25 (bvs h) := Blk.new _ _ _
  have hw0 : Below w.heap.size w (w.alloc (.cells (bvs h).toArray 25)) := (Below.refl _ _).alloc (Nat.le_refl _) _
  obtain ⟨R, hR⟩ : ∃ R, idxZ ls h = R := ⟨_, rfl⟩
  rw [hR]
  have HR := Lib.hid hR
  clear hR lh
  go_enter Try.func156, Try.ntmps156
  go_upto_region 1 with fail
  generalize hW : World.alloc w _ = w0
  have h3 : Blk w0 w.heap.size 25 (bvs h) ∧ Below w.heap.size w w0 := by rw [← hW]; exact ⟨hbh, hw0⟩
  clear hW hbh hw0
  obtain ⟨b0, hw0⟩ := h3
  refine wp_region_lit ?_
  refine wpList_yield rfl _ (exec_move _ rfl) ?_
  simp only [Act.put, Act.eval, Array.getD_eq_getD_getElem?, List.getElem?_toArray, List.getElem?_cons_succ, List.getElem?_cons_zero, Option.getD_some, List.setIfInBounds_toArray, List.set_cons_zero, List.set_cons_succ]
  refine wpList_yield rfl _ (exec_len132 _ rfl A n c rfl) ?_
  simp only [Act.put, List.setIfInBounds_toArray, List.set_cons_zero, List.set_cons_succ]
  refine wpList_yield rfl _ (exec_move _ rfl) ?_
  simp only [Act.put, Act.eval, Array.getD_eq_getD_getElem?, List.getElem?_toArray, List.getElem?_cons_succ, List.getElem?_cons_zero, Option.getD_some, List.setIfInBounds_toArray, List.set_cons_zero, List.set_cons_succ]
  refine wpList_nil ?_
  go_wp2_with fail
  go_loopw [8] (fun i wr => ∃ k : Nat, k ≤ n ∧ i = .int .i64 (k : Int) ∧ Hid (k ≤ fidx ls h) ∧ Below w0.heap.size w0 wr) (fun i _ => n - (intOf i).toNat)
  case atStart => exact ⟨0, by omega, by go_num, Lib.hid (Nat.zero_le _), Below.refl _ _⟩
  case round =>
    obtain ⟨k, hk, rfl, hle, hw⟩ := hrel
    by_cases hlt : k < n
    · have hltz : (k : Int) < (n : Int) := by omega
      obtain ⟨pa, rfl, x0, x32⟩ := hl.at k hlt
      have x1 := x0.below (hw0.trans (hw.mono hw0.size))
      have e1 := Lib.hid x32
      have b1 := b0.below hw b0.lt
      clear x0 x32
      by_cases hxy : ls.getD k [] = h
      · have hb : Hid ((h == ls.getD k []) = true) := Lib.hid (by rw [hxy]; simp)
        obtain rfl : R = (k : Int) := by rw [← HR.out]; exact idxZ_in ls h k (by rw [HN.out]; exact hlt) (fidx_at ls h k (by rw [HN.out]; exact hlt) hle.out hxy)
        clear hxy HR
        generalize ls.getD k [] = x at *
        go_upto_region 4 with fail
        refine rg_begin (Below wr.heap.size wr) [] [] [0, 1, 2, 3, 4, 5] 0 mixed (by kernel_rfl) (fun _ _ _ _ e hh => ⟨e.symm.trans hh.1, hh.2⟩) ?_
        simp only [pick, List.map_cons, List.map_nil, List.getD_cons_zero, List.getD_cons_succ]
        have hS : (Below wr.heap.size wr) _ := (Below.refl _ _).drew
        refine rg_take rfl rfl hS (fun W hW => exec_load_agg at25w (.tmp 3) rfl w.heap.size 25 (bvs h) rfl (b1.below hW b1.lt) (by rw [bvs_length]; exact HL.out)) ?_
        simp only [Act.put, List.setIfInBounds_toArray, List.set_cons_zero, List.set_cons_succ]
        refine rg_take (v := ?v1_1) rfl rfl hS ?y1_1 ?_
        case y1_1 => intro W hW; (try subst hW); go_simp; try with_reducible rfl
        simp only [Act.put, List.setIfInBounds_toArray, List.set_cons_zero, List.set_cons_succ]
        refine rg_take (v := ?v1_2) rfl rfl hS ?y1_2 ?_
        case y1_2 => intro W hW; (try subst hW); go_simp; try with_reducible rfl
        simp only [Act.put, List.setIfInBounds_toArray, List.set_cons_zero, List.set_cons_succ]
        refine rg_take rfl rfl hS (fun W hW => exec_siaz Try.underlying132 sz25 _ _ rfl pa n c k _ rfl rfl hlt) ?_
        simp only [Act.put, List.setIfInBounds_toArray, List.set_cons_zero, List.set_cons_succ]
        refine rg_take rfl rfl hS (fun W hW => exec_load_rd at25w _ rfl _ (bvs x) rfl (x1.below hW) (by omega) (by rw [bvs_length]; exact e1.out)) ?_
        simp only [Act.put, List.setIfInBounds_toArray, List.set_cons_zero, List.set_cons_succ]
        refine rg_take rfl rfl hS (fun W hW => exec_eql_to ab25 _ _ rfl h x rfl rfl HL.out e1.out hb.out) ?_
        simp only [Act.put, List.setIfInBounds_toArray, List.set_cons_zero, List.set_cons_succ]
        refine rg_done (by kernel_rfl) ?_
        go_wp2_with fail
        go_ret
        exact ⟨rfl, (bthen hw0 hw hw0.size).drew⟩
      · have hb : Hid ((h == ls.getD k []) = false) := Lib.hid (by simp only [beq_eq_false_iff_ne]; exact fun e => hxy e.symm)
        have hle2 := Lib.hid (fidx_past ls h k (by rw [HN.out]; exact hlt) hle.out hxy)
        clear hxy
        generalize ls.getD k [] = x at *
        go_upto_region 4 with fail
        refine rg_begin (Below wr.heap.size wr) [] [] [0, 1, 2, 3, 4, 5] 0 mixed (by kernel_rfl) (fun _ _ _ _ e hh => ⟨e.symm.trans hh.1, hh.2⟩) ?_
        simp only [pick, List.map_cons, List.map_nil, List.getD_cons_zero, List.getD_cons_succ]
        have hS : (Below wr.heap.size wr) _ := (Below.refl _ _).drew
        refine rg_take rfl rfl hS (fun W hW => exec_load_agg at25w (.tmp 3) rfl w.heap.size 25 (bvs h) rfl (b1.below hW b1.lt) (by rw [bvs_length]; exact HL.out)) ?_
        simp only [Act.put, List.setIfInBounds_toArray, List.set_cons_zero, List.set_cons_succ]
        refine rg_take (v := ?v2_1) rfl rfl hS ?y2_1 ?_
        case y2_1 => intro W hW; (try subst hW); go_simp; try with_reducible rfl
        simp only [Act.put, List.setIfInBounds_toArray, List.set_cons_zero, List.set_cons_succ]
        refine rg_take (v := ?v2_2) rfl rfl hS ?y2_2 ?_
        case y2_2 => intro W hW; (try subst hW); go_simp; try with_reducible rfl
        simp only [Act.put, List.setIfInBounds_toArray, List.set_cons_zero, List.set_cons_succ]
        refine rg_take rfl rfl hS (fun W hW => exec_siaz Try.underlying132 sz25 _ _ rfl pa n c k _ rfl rfl hlt) ?_
        simp only [Act.put, List.setIfInBounds_toArray, List.set_cons_zero, List.set_cons_succ]
        refine rg_take rfl rfl hS (fun W hW => exec_load_rd at25w _ rfl _ (bvs x) rfl (x1.below hW) (by omega) (by rw [bvs_length]; exact e1.out)) ?_
        simp only [Act.put, List.setIfInBounds_toArray, List.set_cons_zero, List.set_cons_succ]
        refine rg_take rfl rfl hS (fun W hW => exec_eql_to ab25 _ _ rfl h x rfl rfl HL.out e1.out hb.out) ?_
        simp only [Act.put, List.setIfInBounds_toArray, List.set_cons_zero, List.set_cons_succ]
        refine rg_done (by kernel_rfl) ?_
        go_wp2_with fail
        go_roundw
        case rel => exact ⟨k + 1, by omega, by go_num, hle2, hw.drew⟩
        case measure => simp only [intOf]; omega
    · obtain rfl : k = n := by omega
      obtain rfl : R = -1 := by rw [← HR.out]; exact idxZ_out ls h (by rw [HN.out]; exact hle.out)
      clear HR
      go_wp2_with fail
      go_ret
      exact ⟨rfl, bthen hw0 hw hw0.size⟩
set_option maxRecDepth 100000 in
set_option maxHeartbeats 1000000 in
theorem roots_in {S : Nat → Prop} (g : Nat) (rs : List (List UInt8)) (w : World) (h : Lg S w g rs) (l m : Nat) (h1 : l ≤ m) (h2 : m ≤ rs.length) :
    Calls Try.prog 118 #[.pointer (some ⟨g, 0, none⟩), .int .i64 (l : Int), .int .i64 (m : Int)] w fun e w' => ∃ v, e = .returned (.tuple #[v, .int .i64 0]) ∧ w'.ownsRow w.heap.size 25 32 v (m - l) (bvs (midL rs l m).flatten) ∧ Below w.heap.size w w' := by
  obtain ⟨RA, rc, HA, hc, v⟩ := h.view
  have hcl := Lib.hid (log_cells v.blk)
  have C := Lib.hid (lnone_no g rs w h)
  have CL := Lib.hid (cloneH_any _ _ _ _ w (v.r.mid l m h1 h2) (by have := v.few; omega))
  have hcap := v.r.cap
  generalize rs.length = n at *
  have q1 : decide ((l : Int) < 0) = false := by simp
  have q2 : decide (n < m) = false := by simp; omega
  have q3 : decide (m < l) = false := by simp; omega
  clear v h
  go_enter Try.func118, Try.ntmps118
  go_upto_region 3 with (first
    | (go_at_call 154; with_reducible refine C.out.mono ?_; rintro e w1 ⟨rfl, rfl⟩))
  clear C
  refine wp_region_lit ?_
  refine wpList_yield rfl _ (exec_move _ rfl) ?_
  simp only [Act.put, Act.eval, Array.getD_eq_getD_getElem?, List.getElem?_toArray, List.getElem?_cons_succ, List.getElem?_cons_zero, Option.getD_some, List.setIfInBounds_toArray, List.set_cons_zero, List.set_cons_succ]
  refine wpList_yield rfl ?vp3_1 ?yp3_1 ?_
  case yp3_1 => go_simp; try with_reducible rfl
  simp only [Act.put, List.setIfInBounds_toArray, List.set_cons_zero, List.set_cons_succ]
  refine wpList_yield rfl _ (exec_move _ rfl) ?_
  simp only [Act.put, Act.eval, Array.getD_eq_getD_getElem?, List.getElem?_toArray, List.getElem?_cons_succ, List.getElem?_cons_zero, Option.getD_some, List.setIfInBounds_toArray, List.set_cons_zero, List.set_cons_succ]
  refine wpList_yield_w rfl _ (exec_move _ rfl) ?_
  simp only [Act.put, Act.eval, Array.getD_eq_getD_getElem?, List.getElem?_toArray, List.getElem?_cons_succ, List.getElem?_cons_zero, Option.getD_some, List.setIfInBounds_toArray, List.set_cons_zero, List.set_cons_succ]
  refine wpList_yield_w rfl _ (exec_move _ rfl) ?_
  simp only [Act.put, Act.eval, Array.getD_eq_getD_getElem?, List.getElem?_toArray, List.getElem?_cons_succ, List.getElem?_cons_zero, Option.getD_some, List.setIfInBounds_toArray, List.set_cons_zero, List.set_cons_succ]
  refine wpList_yield_w rfl _ (exec_nilck _ rfl _ rfl) ?_
  simp only [Act.put, List.setIfInBounds_toArray, List.set_cons_zero, List.set_cons_succ]
  refine wpList_yield_w rfl _ (exec_l0 _ rfl g rfl) ?_
  simp only [Act.put, List.setIfInBounds_toArray, List.set_cons_zero, List.set_cons_succ]
  refine wpList_yield_w rfl _ (exec_load132 _ rfl _ _ rfl hcl.out.1) ?_
  simp only [Act.put, List.setIfInBounds_toArray, List.set_cons_zero, List.set_cons_succ]
  refine wpList_yield_w rfl _ (exec_len132 _ rfl RA n rc rfl) ?_
  simp only [Act.put, List.setIfInBounds_toArray, List.set_cons_zero, List.set_cons_succ]
  refine wpList_yield_w rfl ?vp4_9 ?yp4_9 ?_
  case yp4_9 => go_simp; try with_reducible rfl
  simp only [Act.put, List.setIfInBounds_toArray, List.set_cons_zero, List.set_cons_succ]
  refine wpList_yield rfl ?vp5_10 ?yp5_10 ?_
  case yp5_10 => go_simp; try with_reducible rfl
  simp only [Act.put, List.setIfInBounds_toArray, List.set_cons_zero, List.set_cons_succ]
  refine wpList_yield rfl _ (exec_move _ rfl) ?_
  simp only [Act.put, Act.eval, Array.getD_eq_getD_getElem?, List.getElem?_toArray, List.getElem?_cons_succ, List.getElem?_cons_zero, Option.getD_some, List.setIfInBounds_toArray, List.set_cons_zero, List.set_cons_succ]
  refine wpList_yield_w rfl _ (exec_move _ rfl) ?_
  simp only [Act.put, Act.eval, Array.getD_eq_getD_getElem?, List.getElem?_toArray, List.getElem?_cons_succ, List.getElem?_cons_zero, Option.getD_some, List.setIfInBounds_toArray, List.set_cons_zero, List.set_cons_succ]
  refine wpList_yield_w rfl _ (exec_move _ rfl) ?_
  simp only [Act.put, Act.eval, Array.getD_eq_getD_getElem?, List.getElem?_toArray, List.getElem?_cons_succ, List.getElem?_cons_zero, Option.getD_some, List.setIfInBounds_toArray, List.set_cons_zero, List.set_cons_succ]
  refine wpList_yield_w rfl ?vp6_14 ?yp6_14 ?_
  case yp6_14 => go_simp; try with_reducible rfl
  simp only [Act.put, List.setIfInBounds_toArray, List.set_cons_zero, List.set_cons_succ]
  refine wpList_yield rfl ?vp7_15 ?yp7_15 ?_
  case yp7_15 => go_simp; try with_reducible rfl
  simp only [Act.put, List.setIfInBounds_toArray, List.set_cons_zero, List.set_cons_succ]
  refine wpList_nil ?_
  go_upto_region 5 with fail
  refine wp_region_lit ?_
  refine wpList_yield rfl _ (exec_move _ rfl) ?_
  simp only [Act.put, Act.eval, Array.getD_eq_getD_getElem?, List.getElem?_toArray, List.getElem?_cons_succ, List.getElem?_cons_zero, Option.getD_some, List.setIfInBounds_toArray, List.set_cons_zero, List.set_cons_succ]
  refine wpList_yield rfl _ (exec_nilck _ rfl _ rfl) ?_
  simp only [Act.put, List.setIfInBounds_toArray, List.set_cons_zero, List.set_cons_succ]
  refine wpList_yield rfl _ (exec_l0 _ rfl g rfl) ?_
  simp only [Act.put, List.setIfInBounds_toArray, List.set_cons_zero, List.set_cons_succ]
  refine wpList_yield rfl _ (exec_load132 _ rfl _ _ rfl hcl.out.1) ?_
  simp only [Act.put, List.setIfInBounds_toArray, List.set_cons_zero, List.set_cons_succ]
  refine wpList_yield rfl _ (exec_move _ rfl) ?_
  simp only [Act.put, Act.eval, Array.getD_eq_getD_getElem?, List.getElem?_toArray, List.getElem?_cons_succ, List.getElem?_cons_zero, Option.getD_some, List.setIfInBounds_toArray, List.set_cons_zero, List.set_cons_succ]
  refine wpList_yield rfl _ (exec_move _ rfl) ?_
  simp only [Act.put, Act.eval, Array.getD_eq_getD_getElem?, List.getElem?_toArray, List.getElem?_cons_succ, List.getElem?_cons_zero, Option.getD_some, List.setIfInBounds_toArray, List.set_cons_zero, List.set_cons_succ]
  refine wpList_yield rfl _ (exec_slice_mid st132 _ _ _ rfl RA n rc l m .i64 .i64 rfl rfl rfl h1 (by omega)) ?_
  simp only [Act.put, List.setIfInBounds_toArray, List.set_cons_zero, List.set_cons_succ]
  refine wpList_plain rfl fun K hK => ?_; go_simp
  with_reducible refine CL.out.mono ?_
  rintro e w1 ⟨v1, rfl, ho1, hw1⟩
  refine hK _ _ ?_; clear hK
  (try simp only [Act.put, List.setIfInBounds_toArray, List.set_cons_zero, List.set_cons_succ])
  refine wpList_yield rfl _ (exec_assign _ rfl) ?_
  simp only [Act.put, Act.eval, Array.getD_eq_getD_getElem?, List.getElem?_toArray, List.getElem?_cons_succ, List.getElem?_cons_zero, Option.getD_some, List.setIfInBounds_toArray, List.set_cons_zero, List.set_cons_succ]
  refine wpList_yield rfl _ (exec_assign _ rfl) ?_
  simp only [Act.put, Act.eval, Array.getD_eq_getD_getElem?, List.getElem?_toArray, List.getElem?_cons_succ, List.getElem?_cons_zero, Option.getD_some, List.setIfInBounds_toArray, List.set_cons_zero, List.set_cons_succ]
  refine wpList_nil ?_
  go_wp2_with fail
  go_ret2
  exact ⟨_, rfl, ho1, hw1⟩
set_option maxRecDepth 100000 in
set_option maxHeartbeats 1000000 in
theorem roots_out {S : Nat → Prop} (g : Nat) (rs : List (List UInt8)) (w : World) (h : Lg S w g rs) (x y : Int) (hq : x < 0 ∨ (rs.length : Int) < y ∨ y < x) :
    Calls Try.prog 118 #[.pointer (some ⟨g, 0, none⟩), .int .i64 x, .int .i64 y] w fun e w' => e = .returned (.tuple #[.slice none 0 0, .int .i64 2]) ∧ w = w' := by
  obtain ⟨RA, rc, HA, hc, v⟩ := h.view
  have hcl := Lib.hid (log_cells v.blk)
  have C := Lib.hid (lnone_no g rs w h)
  generalize rs.length = n at *
  clear v h
  by_cases q1 : x < 0
  · clear hq
    go_enter Try.func118, Try.ntmps118
    go_upto_region 3 with (first
      | (go_at_call 154; with_reducible refine C.out.mono ?_; rintro e w1 ⟨rfl, rfl⟩))
    clear C
    refine wp_region_lit ?_
    refine wpList_yield rfl _ (exec_move _ rfl) ?_
    simp only [Act.put, Act.eval, Array.getD_eq_getD_getElem?, List.getElem?_toArray, List.getElem?_cons_succ, List.getElem?_cons_zero, Option.getD_some, List.setIfInBounds_toArray, List.set_cons_zero, List.set_cons_succ]
    refine wpList_yield rfl ?vp8_1 ?yp8_1 ?_
    case yp8_1 => go_simp; try with_reducible rfl
    simp only [Act.put, List.setIfInBounds_toArray, List.set_cons_zero, List.set_cons_succ]
    refine wpList_yield rfl _ (exec_move _ rfl) ?_
    simp only [Act.put, Act.eval, Array.getD_eq_getD_getElem?, List.getElem?_toArray, List.getElem?_cons_succ, List.getElem?_cons_zero, Option.getD_some, List.setIfInBounds_toArray, List.set_cons_zero, List.set_cons_succ]
    refine no_implicit_lambda% (wpList_skip_w ?k9_3 ?_)
    case k9_3 => rfl
    simp only [Act.put, List.setIfInBounds_toArray, List.set_cons_zero, List.set_cons_succ]
    refine no_implicit_lambda% (wpList_skip_w ?k10_4 ?_)
    case k10_4 => rfl
    simp only [Act.put, List.setIfInBounds_toArray, List.set_cons_zero, List.set_cons_succ]
    refine no_implicit_lambda% (wpList_skip_w ?k11_5 ?_)
    case k11_5 => rfl
    simp only [Act.put, List.setIfInBounds_toArray, List.set_cons_zero, List.set_cons_succ]
    refine no_implicit_lambda% (wpList_skip_w ?k12_6 ?_)
    case k12_6 => rfl
    simp only [Act.put, List.setIfInBounds_toArray, List.set_cons_zero, List.set_cons_succ]
    refine no_implicit_lambda% (wpList_skip_w ?k13_7 ?_)
    case k13_7 => rfl
    simp only [Act.put, List.setIfInBounds_toArray, List.set_cons_zero, List.set_cons_succ]
    refine no_implicit_lambda% (wpList_skip_w ?k14_8 ?_)
    case k14_8 => rfl
    simp only [Act.put, List.setIfInBounds_toArray, List.set_cons_zero, List.set_cons_succ]
    refine no_implicit_lambda% (wpList_skip_w ?k15_9 ?_)
    case k15_9 => rfl
    simp only [Act.put, List.setIfInBounds_toArray, List.set_cons_zero, List.set_cons_succ]
    refine wpList_yield rfl ?vp16_10 ?yp16_10 ?_
    case yp16_10 => go_simp; try with_reducible rfl
    simp only [Act.put, List.setIfInBounds_toArray, List.set_cons_zero, List.set_cons_succ]
    refine wpList_yield rfl _ (exec_move _ rfl) ?_
    simp only [Act.put, Act.eval, Array.getD_eq_getD_getElem?, List.getElem?_toArray, List.getElem?_cons_succ, List.getElem?_cons_zero, Option.getD_some, List.setIfInBounds_toArray, List.set_cons_zero, List.set_cons_succ]
    refine no_implicit_lambda% (wpList_skip_w ?k17_12 ?_)
    case k17_12 => rfl
    simp only [Act.put, List.setIfInBounds_toArray, List.set_cons_zero, List.set_cons_succ]
    refine no_implicit_lambda% (wpList_skip_w ?k18_13 ?_)
    case k18_13 => rfl
    simp only [Act.put, List.setIfInBounds_toArray, List.set_cons_zero, List.set_cons_succ]
    refine no_implicit_lambda% (wpList_skip_w ?k19_14 ?_)
    case k19_14 => rfl
    simp only [Act.put, List.setIfInBounds_toArray, List.set_cons_zero, List.set_cons_succ]
    refine wpList_yield rfl ?vp20_15 ?yp20_15 ?_
    case yp20_15 => go_simp; try with_reducible rfl
    simp only [Act.put, List.setIfInBounds_toArray, List.set_cons_zero, List.set_cons_succ]
    refine wpList_nil ?_
    go_wp2_with fail
    go_ret2
    exact ⟨rfl, rfl⟩
  · have d1 : decide (x < 0) = false := by simp; omega
    by_cases q2 : (n : Int) < y
    · have d2 : decide ((n : Int) < y) = true := by simp; omega
      clear hq q1 q2
      go_enter Try.func118, Try.ntmps118
      go_upto_region 3 with (first
        | (go_at_call 154; with_reducible refine C.out.mono ?_; rintro e w1 ⟨rfl, rfl⟩))
      clear C
      refine wp_region_lit ?_
      refine wpList_yield rfl _ (exec_move _ rfl) ?_
      simp only [Act.put, Act.eval, Array.getD_eq_getD_getElem?, List.getElem?_toArray, List.getElem?_cons_succ, List.getElem?_cons_zero, Option.getD_some, List.setIfInBounds_toArray, List.set_cons_zero, List.set_cons_succ]
      refine wpList_yield rfl ?vp21_1 ?yp21_1 ?_
      case yp21_1 => go_simp; try with_reducible rfl
      simp only [Act.put, List.setIfInBounds_toArray, List.set_cons_zero, List.set_cons_succ]
      refine wpList_yield rfl _ (exec_move _ rfl) ?_
      simp only [Act.put, Act.eval, Array.getD_eq_getD_getElem?, List.getElem?_toArray, List.getElem?_cons_succ, List.getElem?_cons_zero, Option.getD_some, List.setIfInBounds_toArray, List.set_cons_zero, List.set_cons_succ]
      refine wpList_yield_w rfl _ (exec_move _ rfl) ?_
      simp only [Act.put, Act.eval, Array.getD_eq_getD_getElem?, List.getElem?_toArray, List.getElem?_cons_succ, List.getElem?_cons_zero, Option.getD_some, List.setIfInBounds_toArray, List.set_cons_zero, List.set_cons_succ]
      refine wpList_yield_w rfl _ (exec_move _ rfl) ?_
      simp only [Act.put, Act.eval, Array.getD_eq_getD_getElem?, List.getElem?_toArray, List.getElem?_cons_succ, List.getElem?_cons_zero, Option.getD_some, List.setIfInBounds_toArray, List.set_cons_zero, List.set_cons_succ]
      refine wpList_yield_w rfl _ (exec_nilck _ rfl _ rfl) ?_
      simp only [Act.put, List.setIfInBounds_toArray, List.set_cons_zero, List.set_cons_succ]
      refine wpList_yield_w rfl _ (exec_l0 _ rfl g rfl) ?_
      simp only [Act.put, List.setIfInBounds_toArray, List.set_cons_zero, List.set_cons_succ]
      refine wpList_yield_w rfl _ (exec_load132 _ rfl _ _ rfl hcl.out.1) ?_
      simp only [Act.put, List.setIfInBounds_toArray, List.set_cons_zero, List.set_cons_succ]
      refine wpList_yield_w rfl _ (exec_len132 _ rfl RA n rc rfl) ?_
      simp only [Act.put, List.setIfInBounds_toArray, List.set_cons_zero, List.set_cons_succ]
      refine wpList_yield_w rfl ?vp22_9 ?yp22_9 ?_
      case yp22_9 => go_simp; try with_reducible rfl
      simp only [Act.put, List.setIfInBounds_toArray, List.set_cons_zero, List.set_cons_succ]
      refine wpList_yield rfl ?vp23_10 ?yp23_10 ?_
      case yp23_10 => go_simp; try with_reducible rfl
      simp only [Act.put, List.setIfInBounds_toArray, List.set_cons_zero, List.set_cons_succ]
      refine wpList_yield rfl _ (exec_move _ rfl) ?_
      simp only [Act.put, Act.eval, Array.getD_eq_getD_getElem?, List.getElem?_toArray, List.getElem?_cons_succ, List.getElem?_cons_zero, Option.getD_some, List.setIfInBounds_toArray, List.set_cons_zero, List.set_cons_succ]
      refine no_implicit_lambda% (wpList_skip_w ?k24_12 ?_)
      case k24_12 => rfl
      simp only [Act.put, List.setIfInBounds_toArray, List.set_cons_zero, List.set_cons_succ]
      refine no_implicit_lambda% (wpList_skip_w ?k25_13 ?_)
      case k25_13 => rfl
      simp only [Act.put, List.setIfInBounds_toArray, List.set_cons_zero, List.set_cons_succ]
      refine no_implicit_lambda% (wpList_skip_w ?k26_14 ?_)
      case k26_14 => rfl
      simp only [Act.put, List.setIfInBounds_toArray, List.set_cons_zero, List.set_cons_succ]
      refine wpList_yield rfl ?vp27_15 ?yp27_15 ?_
      case yp27_15 => go_simp; try with_reducible rfl
      simp only [Act.put, List.setIfInBounds_toArray, List.set_cons_zero, List.set_cons_succ]
      refine wpList_nil ?_
      go_wp2_with fail
      go_ret2
      exact ⟨rfl, rfl⟩
    · have d2 : decide ((n : Int) < y) = false := by simp; omega
      have d3 : decide (y < x) = true := by simp; omega
      clear hq q1 q2
      go_enter Try.func118, Try.ntmps118
      go_upto_region 3 with (first
        | (go_at_call 154; with_reducible refine C.out.mono ?_; rintro e w1 ⟨rfl, rfl⟩))
      clear C
      refine wp_region_lit ?_
      refine wpList_yield rfl _ (exec_move _ rfl) ?_
      simp only [Act.put, Act.eval, Array.getD_eq_getD_getElem?, List.getElem?_toArray, List.getElem?_cons_succ, List.getElem?_cons_zero, Option.getD_some, List.setIfInBounds_toArray, List.set_cons_zero, List.set_cons_succ]
      refine wpList_yield rfl ?vp28_1 ?yp28_1 ?_
      case yp28_1 => go_simp; try with_reducible rfl
      simp only [Act.put, List.setIfInBounds_toArray, List.set_cons_zero, List.set_cons_succ]
      refine wpList_yield rfl _ (exec_move _ rfl) ?_
      simp only [Act.put, Act.eval, Array.getD_eq_getD_getElem?, List.getElem?_toArray, List.getElem?_cons_succ, List.getElem?_cons_zero, Option.getD_some, List.setIfInBounds_toArray, List.set_cons_zero, List.set_cons_succ]
      refine wpList_yield_w rfl _ (exec_move _ rfl) ?_
      simp only [Act.put, Act.eval, Array.getD_eq_getD_getElem?, List.getElem?_toArray, List.getElem?_cons_succ, List.getElem?_cons_zero, Option.getD_some, List.setIfInBounds_toArray, List.set_cons_zero, List.set_cons_succ]
      refine wpList_yield_w rfl _ (exec_move _ rfl) ?_
      simp only [Act.put, Act.eval, Array.getD_eq_getD_getElem?, List.getElem?_toArray, List.getElem?_cons_succ, List.getElem?_cons_zero, Option.getD_some, List.setIfInBounds_toArray, List.set_cons_zero, List.set_cons_succ]
      refine wpList_yield_w rfl _ (exec_nilck _ rfl _ rfl) ?_
      simp only [Act.put, List.setIfInBounds_toArray, List.set_cons_zero, List.set_cons_succ]
      refine wpList_yield_w rfl _ (exec_l0 _ rfl g rfl) ?_
      simp only [Act.put, List.setIfInBounds_toArray, List.set_cons_zero, List.set_cons_succ]
      refine wpList_yield_w rfl _ (exec_load132 _ rfl _ _ rfl hcl.out.1) ?_
      simp only [Act.put, List.setIfInBounds_toArray, List.set_cons_zero, List.set_cons_succ]
      refine wpList_yield_w rfl _ (exec_len132 _ rfl RA n rc rfl) ?_
      simp only [Act.put, List.setIfInBounds_toArray, List.set_cons_zero, List.set_cons_succ]
      refine wpList_yield_w rfl ?vp29_9 ?yp29_9 ?_
      case yp29_9 => go_simp; try with_reducible rfl
      simp only [Act.put, List.setIfInBounds_toArray, List.set_cons_zero, List.set_cons_succ]
      refine wpList_yield rfl ?vp30_10 ?yp30_10 ?_
      case yp30_10 => go_simp; try with_reducible rfl
      simp only [Act.put, List.setIfInBounds_toArray, List.set_cons_zero, List.set_cons_succ]
      refine wpList_yield rfl _ (exec_move _ rfl) ?_
      simp only [Act.put, Act.eval, Array.getD_eq_getD_getElem?, List.getElem?_toArray, List.getElem?_cons_succ, List.getElem?_cons_zero, Option.getD_some, List.setIfInBounds_toArray, List.set_cons_zero, List.set_cons_succ]
      refine wpList_yield_w rfl _ (exec_move _ rfl) ?_
      simp only [Act.put, Act.eval, Array.getD_eq_getD_getElem?, List.getElem?_toArray, List.getElem?_cons_succ, List.getElem?_cons_zero, Option.getD_some, List.setIfInBounds_toArray, List.set_cons_zero, List.set_cons_succ]
      refine wpList_yield_w rfl _ (exec_move _ rfl) ?_
      simp only [Act.put, Act.eval, Array.getD_eq_getD_getElem?, List.getElem?_toArray, List.getElem?_cons_succ, List.getElem?_cons_zero, Option.getD_some, List.setIfInBounds_toArray, List.set_cons_zero, List.set_cons_succ]
      refine wpList_yield_w rfl ?vp31_14 ?yp31_14 ?_
      case yp31_14 => go_simp; try with_reducible rfl
      simp only [Act.put, List.setIfInBounds_toArray, List.set_cons_zero, List.set_cons_succ]
      refine wpList_yield rfl ?vp32_15 ?yp32_15 ?_
      case yp32_15 => go_simp; try with_reducible rfl
      simp only [Act.put, List.setIfInBounds_toArray, List.set_cons_zero, List.set_cons_succ]
      refine wpList_nil ?_
      go_wp2_with fail
      go_ret2
      exact ⟨rfl, rfl⟩
/-- What Find tells: a place, and whether there is one. -/
def findN (rs : List (List UInt8)) (h : List UInt8) : Nat := if fidx (heads rs) h ≤ rs.length then fidx (heads rs) h else 0
def findB (rs : List (List UInt8)) (h : List UInt8) : Bool := decide (fidx (heads rs) h ≤ rs.length)
theorem find_idx (rs : List (List UInt8)) (h : List UInt8) (R : Int) (hR : idxZ (heads rs) h = R) : (findB rs h = true ∧ R = (findN rs h : Int)) ∨ (findB rs h = false ∧ R = -1 ∧ findN rs h = 0) := by
  unfold findB findN
  unfold idxZ at hR
  rw [heads_length] at hR
  by_cases hq : fidx (heads rs) h ≤ rs.length
  · rw [if_pos (by omega)] at hR
    rw [if_pos hq]
    exact .inl ⟨by simpa using hq, hR.symm⟩
  · rw [if_neg (by omega)] at hR
    rw [if_neg hq]
    exact .inr ⟨by simpa using hq, hR.symm, rfl⟩
set_option maxRecDepth 100000 in
set_option maxHeartbeats 1000000 in
theorem find_any {S : Nat → Prop} (g : Nat) (rs : List (List UInt8)) (h : List UInt8) (w : World) (hg : Lg S w g rs) (lh : h.length = 32) :
    Calls Try.prog 119 #[.pointer (some ⟨g, 0, none⟩), .agg (bvs h).toArray] w fun e w' => e = .returned (.tuple #[.int .i64 (findN rs h : Int), .bool (findB rs h)]) ∧ Below w.heap.size w w' := by
  have hbr : Blk (w.alloc (.cells (bvs h).toArray 25)) w.heap.size 25 (bvs h) := Blk.new _ _ _
  have hw0 : Below w.heap.size w (w.alloc (.cells (bvs h).toArray 25)) := (Below.refl _ _).alloc (Nat.le_refl _) _
  have h0 := hg.below hw0
  obtain ⟨RA, rc, HA, hc, v⟩ := h0.view
  have hcl := Lib.hid (log_cells v.blk)
  have C := Lib.hid (lnone_no g rs _ h0)
  have IX := fun (u : World) (x : Hl u HA (rs.length + 1) hc (heads rs)) => Lib.hid (index_any HA (rs.length + 1) hc (heads rs) h u x lh)
  have HH := v.h
  have LH := Lib.hid lh
  obtain ⟨R, hR⟩ : ∃ R, idxZ (heads rs) h = R := ⟨_, rfl⟩
  have HC := find_idx rs h R hR
  rw [hR] at IX
  clear hR v h0 hg lh
  generalize heads rs = hs at *
  generalize rs.length + 1 = n1 at *
  generalize rs.length = n at *
  generalize findN rs h = N at *
  generalize findB rs h = B at *
  have hall := And.intro hbr (And.intro hw0 (And.intro hcl (And.intro C HH)))
  clear hbr hw0 hcl C HH
  go_enter Try.func119, Try.ntmps119
  go_upto_region 1 with fail
  generalize hW : World.alloc w _ = w0
  have hall : Blk w0 w.heap.size 25 (bvs h) ∧ Below w.heap.size w w0 ∧ Hid (w0.cell? ⟨g, 0, none⟩ = some (.slice RA n rc) ∧ w0.cell? ⟨g, 1, none⟩ = some (.slice HA n1 hc)) ∧ Hid (Calls Try.prog 154 #[.pointer (some ⟨g, 0, none⟩)] w0 fun e w' => e = .returned (.bool false) ∧ w0 = w') ∧ Hl w0 HA n1 hc hs := by rw [← hW]; exact hall
  clear hW
  obtain ⟨hbr, hw0, hcl, C, HH⟩ := hall
  go_upto_region 3 with (first
    | (go_at_call 154; with_reducible refine C.out.mono ?_; rintro e w1 ⟨rfl, rfl⟩))
  clear C
  refine rg_begin (Below w0.heap.size w0) [] [5] [0, 1, 2, 3, 4, 5, 6] 0 mixed (by kernel_rfl) (fun _ _ _ _ e hh => ⟨e.symm.trans hh.1, hh.2⟩) ?_
  simp only [pick, List.map_cons, List.map_nil, List.getD_cons_zero, List.getD_cons_succ]
  have hS : (Below w0.heap.size w0) _ := (Below.refl _ _).drew
  refine rg_take (v := ?v33_0) rfl rfl hS ?y33_0 ?_
  case y33_0 => intro W hW; (try subst hW); go_simp; try with_reducible rfl
  simp only [Act.put, List.setIfInBounds_toArray, List.set_cons_zero, List.set_cons_succ]
  refine rg_take rfl rfl hS (fun W hW => exec_nilck _ rfl _ rfl) ?_
  simp only [Act.put, List.setIfInBounds_toArray, List.set_cons_zero, List.set_cons_succ]
  refine rg_take rfl rfl hS (fun W hW => exec_l1 _ rfl g rfl) ?_
  simp only [Act.put, List.setIfInBounds_toArray, List.set_cons_zero, List.set_cons_succ]
  refine rg_take rfl rfl hS (fun W hW => exec_load132 _ rfl _ _ rfl (cell_below hW hcl.out.2)) ?_
  simp only [Act.put, List.setIfInBounds_toArray, List.set_cons_zero, List.set_cons_succ]
  refine rg_take rfl rfl hS (fun W hW => exec_load_agg at25w (.tmp 3) rfl w.heap.size 25 (bvs h) rfl (hbr.below hW hbr.lt) (by rw [bvs_length]; exact LH.out)) ?_
  simp only [Act.put, List.setIfInBounds_toArray, List.set_cons_zero, List.set_cons_succ]
  refine rg_one rfl rfl ?_; intro K hK; go_simp
  with_reducible refine (IX _ (HH.below hS)).out.mono ?_
  rintro e w2 ⟨rfl, hw2⟩
  have hS1 : Below w0.heap.size w0 w2 := Below.trans hS (hw2.mono (Below.size hS))
  refine hK _ _ (fun _ => hS1) ?_; clear hK
  refine rg_take (v := ?v33_6) rfl rfl hS1 ?y33_6 ?_
  case y33_6 => intro W hW; (try subst hW); go_simp; try with_reducible rfl
  simp only [Act.put, List.setIfInBounds_toArray, List.set_cons_zero, List.set_cons_succ]
  refine rg_done (by kernel_rfl) ?_
  have hB : Below w.heap.size w w2 := bthen hw0 hS1 hw0.size
  clear hS hS1 hw0 hbr hcl IX HH
  rcases HC with ⟨hB1, hR1⟩ | ⟨hB1, hR1, hN1⟩
  · subst hB1
    obtain rfl := hR1
    go_wp2_with fail
    go_ret2
    exact ⟨rfl, hB⟩
  · subst hB1
    obtain rfl := hR1
    obtain rfl : 0 = N := hN1.symm
    go_wp2_with fail
    go_ret2
    exact ⟨rfl, hB⟩
/-- While a log is made of roots: those so far are in it. -/
def FromS (w : World) (g : Nat) (ls : List (List UInt8)) (wr : World) : Prop := ∃ S, Lg S wr g ls ∧ (∀ k, S k → w.heap.size ≤ k) ∧ Below w.heap.size w wr
set_option maxRecDepth 100000 in
set_option maxHeartbeats 4000000 in
theorem from_any (A : Option Addr) (n c : Nat) (ls : List (List UInt8)) (w : World) (hl : Hl w A n c ls) (hn : n ≤ 4096) :
    Calls Try.prog 114 #[.slice A n c] w fun e w' => ∃ g S, e = .returned (.tuple #[.pointer (some ⟨g, 0, none⟩), .int .i64 0]) ∧ Lg S w' g ls ∧ (∀ k, S k → w.heap.size ≤ k) ∧ Below w.heap.size w w' := by
  have HN := Lib.hid hl.len
  have NW := fun u => Lib.hid (new_log u)
  have hge : ¬ (4096 : Int) < (n : Int) := by omega
  have HT : Hid (ls.take n = ls) := Lib.hid (List.take_of_length_le (by rw [HN.out]; exact Nat.le_refl _))
  go_enter Try.func114, Try.ntmps114
  go_upto_region 1 with fail
  refine wp_region_lit ?_
  refine wpList_yield rfl _ (exec_move _ rfl) ?_
  simp only [Act.put, Act.eval, Array.getD_eq_getD_getElem?, List.getElem?_toArray, List.getElem?_cons_succ, List.getElem?_cons_zero, Option.getD_some, List.setIfInBounds_toArray, List.set_cons_zero, List.set_cons_succ]
  refine wpList_yield rfl _ (exec_len132 _ rfl A n c rfl) ?_
  simp only [Act.put, List.setIfInBounds_toArray, List.set_cons_zero, List.set_cons_succ]
  refine wpList_yield rfl ?vp34_2 ?yp34_2 ?_
  case yp34_2 => go_simp; try with_reducible rfl
  simp only [Act.put, List.setIfInBounds_toArray, List.set_cons_zero, List.set_cons_succ]
  refine wpList_nil ?_
  go_upto_region 4 with (first
    | (go_at_call 148; with_reducible refine (NW _).out.mono ?_; rintro e w1 ⟨g, S, rfl, hl1, hS1, hw1⟩))
  refine wp_region_lit ?_
  refine wpList_yield rfl _ (exec_move _ rfl) ?_
  simp only [Act.put, Act.eval, Array.getD_eq_getD_getElem?, List.getElem?_toArray, List.getElem?_cons_succ, List.getElem?_cons_zero, Option.getD_some, List.setIfInBounds_toArray, List.set_cons_zero, List.set_cons_succ]
  refine wpList_yield rfl _ (exec_len132 _ rfl A n c rfl) ?_
  simp only [Act.put, List.setIfInBounds_toArray, List.set_cons_zero, List.set_cons_succ]
  refine wpList_yield rfl _ (exec_move _ rfl) ?_
  simp only [Act.put, Act.eval, Array.getD_eq_getD_getElem?, List.getElem?_toArray, List.getElem?_cons_succ, List.getElem?_cons_zero, Option.getD_some, List.setIfInBounds_toArray, List.set_cons_zero, List.set_cons_succ]
  refine wpList_nil ?_
  go_wp2_with fail
  go_loopw [13] (fun i wr => ∃ k : Nat, k ≤ n ∧ i = .int .i64 (k : Int) ∧ FromS w g (ls.take k) wr) (fun i _ => n - (intOf i).toNat)
  case atStart => exact ⟨0, by omega, by go_num, S, hl1, hS1, hw1⟩
  case round =>
    clear hl1 hS1 hw1
    obtain ⟨k, hk, rfl, S2, hl2, hS2, hw2⟩ := hrel
    by_cases hlt : k < n
    · have hltz : (k : Int) < (n : Int) := by omega
      obtain ⟨ad, rfl, hrd, h32⟩ := hl.at k hlt
      have hrd1 := hrd.below hw2
      have hlk : (ls.take k).length = k := by rw [List.length_take, HN.out]; omega
      have AD := fun (u : World) (x : Lg S2 u g (ls.take k)) => Lib.hid (add_any g (ls.take k) (ls.getD k []) u x h32 (by rw [hlk]; omega))
      have HS : Hid (ls.take k ++ [ls.getD k []] = ls.take (k + 1)) := Lib.hid (by
        rw [List.take_succ_eq_append_getElem (by rw [HN.out]; exact hlt), List.getD_eq_getElem?_getD, List.getElem?_eq_getElem (by rw [HN.out]; exact hlt)]; rfl)
      rw [HS.out, hlk] at AD
      have hy := Lib.hid h32
      clear hrd h32 hlk HS
      obtain ⟨l2, hq2⟩ : ∃ l2, ls.take (k + 1) = l2 := ⟨_, rfl⟩
      rw [hq2] at AD
      have HQ := Lib.hid hq2
      clear hq2
      generalize ls.take k = l1 at *
      generalize ls.getD k [] = y at *
      unfold arr8 at AD
      have b1 : Blk (wr.alloc (.cells (bvs (zb 32)).toArray 25)) wr.heap.size 25 (bvs (zb 32)) := Blk.new _ _ _
      have d2 := hl2.below ((Below.refl _ _).alloc (Nat.le_refl _) (.cells (bvs (zb 32)).toArray 25))
      have d0 : Below w.heap.size w (wr.alloc (.cells (bvs (zb 32)).toArray 25)) := hw2.alloc hw2.size _
      have hS2s : ¬ S2 wr.heap.size := fun h => by obtain ⟨_, _, p⟩ := hl2; have := p.lt _ h; omega
      go_upto_region 6 with fail
      refine wp_region_lit ?_
      refine wpList_yield rfl _ (exec_siaz Try.underlying132 sz25 _ _ rfl ad n c k _ rfl rfl hlt) ?_
      simp only [Act.put, List.setIfInBounds_toArray, List.set_cons_zero, List.set_cons_succ]
      refine wpList_yield rfl _ (exec_load_rd at25w _ rfl _ (bvs y) rfl hrd1 (by omega) (by rw [bvs_length]; exact hy.out)) ?_
      simp only [Act.put, List.setIfInBounds_toArray, List.set_cons_zero, List.set_cons_succ]
      refine wpList_plain rfl fun K hK => ?_; go_simp
      refine hK _ _ ?_; clear hK
      (try simp only [Act.put, List.setIfInBounds_toArray, List.set_cons_zero, List.set_cons_succ])
      refine wpList_store_at at25w.i rfl (.tmp 6) (.tmp 16) rfl wr.heap.size 0 25 (bvs (zb 32)) (bvs y) rfl rfl b1 (by rw [bvs_length]; exact hy.out) (by rw [bvs_length, zb_length]; omega) (bvs_one _) ?_
      intro w3 hb3 hg3 hs3
      (try simp only [Act.put, List.setIfInBounds_toArray, List.set_cons_zero, List.set_cons_succ])
      refine wpList_nil ?_
      rw [splice_all _ _ (by rw [bvs_length, bvs_length, zb_length]; exact hy.out.symm)] at hb3
      have e2 := d2.fr (T := fun k => k = wr.heap.size) ((Fr.refl _ _).grown hg3 (by intro g hg; cases hg; exact .inl rfl)) (fun k hk e => hS2s (by rw [← e]; exact hk))
      have e0 := d0.grown hg3 d0.size (by intro k hk; cases hk; exact hw2.size)
      clear b1 d2 d0 hg3 hs3 hS2s hl2 hw2
      generalize wr.heap.size = G at *
      go_upto_region 7 with fail
      refine wp_region_lit ?_
      refine wpList_yield rfl _ (exec_move _ rfl) ?_
      simp only [Act.put, Act.eval, Array.getD_eq_getD_getElem?, List.getElem?_toArray, List.getElem?_cons_succ, List.getElem?_cons_zero, Option.getD_some, List.setIfInBounds_toArray, List.set_cons_zero, List.set_cons_succ]
      refine wpList_yield rfl _ (exec_load_agg at25w (.tmp 6) rfl G 25 (bvs y) rfl hb3 (by rw [bvs_length]; exact hy.out)) ?_
      simp only [Act.put, List.setIfInBounds_toArray, List.set_cons_zero, List.set_cons_succ]
      refine wpList_plain rfl fun K hK => ?_; go_simp
      with_reducible refine (AD w3 e2).out.mono ?_
      rintro e w4 ⟨S4, rfl, hl4, hS4, hf4⟩
      refine hK _ _ ?_; clear hK
      (try simp only [Act.put, List.setIfInBounds_toArray, List.set_cons_zero, List.set_cons_succ])
      refine wpList_nil ?_
      have e4 := below_fr e0 hf4 e0.size hS2
      go_wp2_with fail
      go_roundw
      case rel => exact ⟨k + 1, by omega, by go_num, S4, by rw [HQ.out]; exact hl4, fun q hq => (hS4 q hq).elim (hS2 q) (fun h => Nat.le_trans e0.size h), e4⟩
      case measure => simp only [intOf]; omega
    · obtain rfl : n = k := by omega
      rw [HT.out] at hl2
      go_wp2_with fail
      go_ret2
      exact ⟨g, S2, rfl, hl2, hS2, hw2⟩
set_option maxRecDepth 100000 in
set_option maxHeartbeats 1000000 in
theorem from_long (A : Option Addr) (n c : Nat) (w : World) (hn : 4096 < n) :
    Calls Try.prog 114 #[.slice A n c] w fun e w' => e = .returned (.tuple #[.pointer none, .int .i64 4]) ∧ w = w' := by
  have hge : (4096 : Int) < (n : Int) := by omega
  go_enter Try.func114, Try.ntmps114
  go_upto_region 1 with fail
  refine wp_region_lit ?_
  refine wpList_yield rfl _ (exec_move _ rfl) ?_
  simp only [Act.put, Act.eval, Array.getD_eq_getD_getElem?, List.getElem?_toArray, List.getElem?_cons_succ, List.getElem?_cons_zero, Option.getD_some, List.setIfInBounds_toArray, List.set_cons_zero, List.set_cons_succ]
  refine wpList_yield rfl _ (exec_len132 _ rfl A n c rfl) ?_
  simp only [Act.put, List.setIfInBounds_toArray, List.set_cons_zero, List.set_cons_succ]
  refine wpList_yield rfl ?vp35_2 ?yp35_2 ?_
  case yp35_2 => go_simp; try with_reducible rfl
  simp only [Act.put, List.setIfInBounds_toArray, List.set_cons_zero, List.set_cons_succ]
  refine wpList_nil ?_
  go_wp2_with fail
  go_ret2
  exact ⟨rfl, rfl⟩
end Go.Proofs.Ytehbahobkgoapaa
