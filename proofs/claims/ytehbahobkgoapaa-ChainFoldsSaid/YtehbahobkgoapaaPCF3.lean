
import Derived.Test.YtehbahobkgoapaaPCF2
namespace Go.Proofs.Ytehbahobkgoapaa
open Go Go.RowKit
set_option linter.unusedSimpArgs false
set_option linter.unusedVariables false
def firstH : List UInt8 := shaL [4]
def nextH (h r : List UInt8) : List UInt8 := shaL (5 :: (h ++ r))
def foldH (h : List UInt8) (ls : List (List UInt8)) : List UInt8 := ls.foldl nextH h
theorem firstH_length : firstH.length = 32 := shaL_length _
theorem nextH_length (h r : List UInt8) : (nextH h r).length = 32 := shaL_length _
theorem foldH_length (h : List UInt8) (ls : List (List UInt8)) (hh : h.length = 32) : (foldH h ls).length = 32 := by
  induction ls generalizing h with
  | nil => exact hh
  | cons r ls ih => exact ih _ (nextH_length _ _)
theorem foldH_take (h : List UInt8) (ls : List (List UInt8)) (k : Nat) (hk : k < ls.length) : foldH h (ls.take (k + 1)) = nextH (foldH h (ls.take k)) (ls.getD k []) := by
  rw [List.take_succ_eq_append_getElem hk]
  unfold foldH
  rw [List.foldl_append, List.getD_eq_getElem?_getD, List.getElem?_eq_getElem hk]
  rfl
theorem flat32_len (ls : List (List UInt8)) (h : ∀ l ∈ ls, l.length = 32) : ls.flatten.length = 32 * ls.length := by
  induction ls with
  | nil => rfl
  | cons l ls ih =>
    rw [List.flatten_cons, List.length_append, h l (by simp), ih (fun x hx => h x (by simp [hx])), List.length_cons]
    omega
theorem flat32_get (ls : List (List UInt8)) (h : ∀ l ∈ ls, l.length = 32) (i : Nat) (hi : i < ls.length) : (ls.flatten.drop (i * 32)).take 32 = ls.getD i [] := by
  induction ls generalizing i with
  | nil => simp at hi
  | cons l ls ih =>
    have hl := h l (by simp)
    rw [List.flatten_cons]
    cases i with
    | zero => rw [Nat.zero_mul, List.drop_zero, List.take_append_of_le_length (by omega), List.take_of_length_le (by omega)]; rfl
    | succ i =>
      rw [List.drop_append, List.drop_eq_nil_of_le (by omega), List.nil_append, show (i + 1) * 32 - l.length = i * 32 by omega, ih (fun x hx => h x (by simp [hx])) i (by simpa using hi)]
      rfl
theorem flat32_take (ls : List (List UInt8)) (h : ∀ l ∈ ls, l.length = 32) (k : Nat) (hk : k ≤ ls.length) : ls.flatten.take (32 * k) = (ls.take k).flatten := by
  induction ls generalizing k with
  | nil => simp
  | cons l ls ih =>
    have hl := h l (by simp)
    cases k with
    | zero => simp
    | succ k =>
      rw [List.flatten_cons, List.take_succ_cons, List.flatten_cons, List.take_append, List.take_of_length_le (by omega), show 32 * (k + 1) - l.length = 32 * k by omega, ih (fun x hx => h x (by simp [hx])) k (by simpa using hk)]
/-- A list of digests that can be read. -/
structure Hl (w : World) (A : Option Addr) (n c : Nat) (ls : List (List UInt8)) : Prop where
  len : ls.length = n
  cap : n ≤ c
  max : c ≤ maxLen
  rd : Rd w A (bvs ls.flatten)
  each : ∀ l ∈ ls, l.length = 32
theorem Hl.below {w w' : World} {A : Option Addr} {n c : Nat} {ls : List (List UInt8)} (h : Hl w A n c ls) (hb : Below w.heap.size w w') : Hl w' A n c ls := ⟨h.len, h.cap, h.max, h.rd.below hb, h.each⟩
theorem Hl.at {w : World} {A : Option Addr} {n c : Nat} {ls : List (List UInt8)} (h : Hl w A n c ls) (i : Nat) (hi : i < n) : ∃ ad, A = some ad ∧ Rd w (some (ad.add (i * 32))) (bvs (ls.getD i [])) ∧ (ls.getD i []).length = 32 := by
  have hf := flat32_len ls h.each
  have hl := h.len
  obtain ⟨ad, hA, _⟩ := h.rd.at_ (k := 0) (by rw [bvs_length, hf]; omega)
  have hc := h.rd.cut (i * 32) 32
  have e : ((bvs ls.flatten).drop (i * 32)).take 32 = bvs (ls.getD i []) := by
    unfold bvs
    rw [← List.map_drop, ← List.map_take, flat32_get ls h.each i (by omega)]
  rw [e, hA] at hc
  refine ⟨ad, hA, hc, ?_⟩
  rw [List.getD_eq_getElem?_getD, List.getElem?_eq_getElem (by omega)]
  exact h.each _ (List.getElem_mem (by omega))
theorem Hl.to {w : World} {A : Option Addr} {n c : Nat} {ls : List (List UInt8)} (h : Hl w A n c ls) (k : Nat) (hk : k ≤ n) : Hl w A k c (ls.take k) := by
  have hl := h.len
  refine ⟨by rw [List.length_take]; omega, by have := h.cap; omega, h.max, ?_, fun l hl => h.each l (List.mem_of_mem_take hl)⟩
  have h1 := h.rd.take (32 * k)
  rw [← flat32_take ls h.each k (by omega)]
  unfold bvs at h1 ⊢
  rwa [← List.map_take] at h1
theorem exec_siaz {P : Program} {w : World} {a : Act} {o : Oper} {t e : TypeId} {z : Nat} (hu : P.underlying t = some (.slice e)) (hz : (P.info? e).map (·.size) = some z) (x y : Operand) (ho : o.op = .indexAddr t x y) (ad : Addr) (n c i : Nat) (k : IntKind) (hx : a.eval x = .slice (some ad) n c) (hy : a.eval y = .int k (i : Int)) (hi : i < n) :
    (execOp a.eval o).run P w = .ok (.value (.pointer (some (ad.add (i * z))))) w := by
  have he : P.elem t = e := by simp [Program.elem, hu]
  have hs : (sizeOf e).run P w = .ok z w := by
    cases hq : P.info? e with
    | none => simp [hq] at hz
    | some j =>
      simp [hq] at hz
      simp [sizeOf, typeInfo, hq, hz]
  have hr := run_indexAt_slice (P := P) w t ad n c k (i : Int) (by rw [he]; exact hu)
  rw [he, if_pos (by omega), hs] at hr
  simp only [Result.andThen_ok, Int.toNat_natCast] at hr
  unfold execOp
  simp only [ho, hx, hy, Sem.run_bind, hr, Result.andThen_ok, Sem.run_pure]
theorem sz25 : (Try.prog.info? 25).map (·.size) = some 32 := by kernel_rfl
theorem exec_len132 {w : World} {a : Act} {o : Oper} (x : Operand) (ho : o.op = .call { callee := .builtin .len, args := #[x], argTypes := #[132] }) (A : Option Addr) (n c : Nat) (hx : a.eval x = .slice A n c) :
    (execOp a.eval o).run Try.prog w = .ok (.value (.int .i64 (n : Int))) w := by
  unfold execOp
  simp only [ho, resolve, invoke, builtin, Sem.run_bind, Sem.run_pure, Result.andThen_ok, List.map_toArray, List.map_cons, List.map_nil, hx]
  go_simp
set_option maxRecDepth 100000 in
set_option maxHeartbeats 1000000 in
theorem cfirst_any (w : World) : Calls Try.prog 106 #[] w fun e w' => e = .returned (arr8 (shaL [4])) ∧ Below w.heap.size w w' := by
  have hbz : Blk (w.alloc (.cells (bvs (zb 32)).toArray 25)) w.heap.size 25 (bvs (zb 32)) := Blk.new _ _ _
  have hw0 : Below w.heap.size w (w.alloc (.cells (bvs (zb 32)).toArray 25)) := (Below.refl _ _).alloc (Nat.le_refl _) _
  have C := fun u => Lib.hid (tagof_is 4 4 rfl none 0 0 [] [] u rfl (Rd.nil _ _) (AllRd.nil _) (fun i v h => by simp at h) (by omega) (by simp))
  have HRL : Hid ((shaL [4]).length = 32) := Lib.hid (shaL_length _)
  rw [show (4 : UInt8) :: ([] : List (List UInt8)).flatten = [4] from rfl] at C
  generalize shaL [4] = res at *
  unfold arr8 at *
  go_enter Try.func106, Try.ntmps106
  go_upto_region 1 with fail
  refine wp_region_lit ?_
  refine wpList_plain rfl fun K hK => ?_; go_simp
  refine (C _).out.mono ?_
  rintro e w3 ⟨rfl, hw3⟩
  refine hK _ _ ?_; clear hK
  (try simp only [Act.put, List.setIfInBounds_toArray, List.set_cons_zero, List.set_cons_succ])
  refine wpList_store_at at25w.i rfl (.tmp 0) (.tmp 1) rfl w.heap.size 0 25 (bvs (zb 32)) (bvs res) rfl rfl (hbz.below hw3 hbz.lt) (by rw [bvs_length]; exact HRL.out) (by rw [bvs_length, zb_length]; omega) (bvs_one _) ?_
  intro w4 hb4 hg4 hs4
  (try simp only [Act.put, List.setIfInBounds_toArray, List.set_cons_zero, List.set_cons_succ])
  refine wpList_nil ?_
  go_wp2_with fail
  (try simp only [Exit.inBlock, Exit.then])
  rw [splice_all _ _ (by rw [bvs_length, bvs_length, zb_length]; exact HRL.out.symm)] at hb4
  refine bodyPost_ret (ret_cell rfl at25w _ _ w.heap.size 25 (bvs res) rfl hb4 (by rw [bvs_length]; exact HRL.out)) rfl ?_
  exact ⟨rfl, (hw0.trans (hw3.mono hw0.size)).grown hg4 (Nat.le_trans hw0.size hw3.size) (by intro k hk; cases hk; omega)⟩
set_option maxRecDepth 100000 in
set_option maxHeartbeats 2000000 in
theorem cnext_any (k v : List UInt8) (w : World) (lk : k.length = 32) (lv : v.length = 32) :
    Calls Try.prog 108 #[arr8 k, arr8 v] w fun e w' => e = .returned (arr8 (shaL (5 :: (k ++ v)))) ∧ Below w.heap.size w w' := by
  have b1 : Blk (w.alloc (.cells (bvs k).toArray 25)) w.heap.size 25 (bvs k) := Blk.new _ _ _
  have b2 : Blk ((w.alloc (.cells (bvs k).toArray 25)).alloc (.cells (bvs v).toArray 25)) (w.heap.size + 1) 25 (bvs v) := by
    have := Blk.new (w.alloc (.cells (bvs k).toArray 25)) 25 (bvs v)
    rwa [show (w.alloc (.cells (bvs k).toArray 25)).heap.size = w.heap.size + 1 by simp] at this
  have b3 : Blk (((w.alloc (.cells (bvs k).toArray 25)).alloc (.cells (bvs v).toArray 25)).alloc (.cells (bvs (zb 32)).toArray 25)) (w.heap.size + 2) 25 (bvs (zb 32)) := by
    have := Blk.new ((w.alloc (.cells (bvs k).toArray 25)).alloc (.cells (bvs v).toArray 25)) 25 (bvs (zb 32))
    rwa [show ((w.alloc (.cells (bvs k).toArray 25)).alloc (.cells (bvs v).toArray 25)).heap.size = w.heap.size + 2 by simp] at this
  have hall := And.intro ((b1.alloc (.cells (bvs v).toArray 25)).alloc (.cells (bvs (zb 32)).toArray 25)) (And.intro (b2.alloc (.cells (bvs (zb 32)).toArray 25)) (And.intro b3
    ((((Below.refl w.heap.size w).alloc (Nat.le_refl _) (.cells (bvs k).toArray 25)).alloc (by simp) (.cells (bvs v).toArray 25)).alloc (by simp; omega) (.cells (bvs (zb 32)).toArray 25))))
  clear b1 b2 b3
  have C := fun (u : World) (A : Option Addr) (vs : List Value) (hr : Rd u A vs) (ha : AllRd u vs [k, v]) (hm : ∀ (i : Nat) (x : Value), vs[i]? = some x → capOf x ≤ maxLen) => Lib.hid (tagof_is 5 5 rfl A 2 2 vs [k, v] u rfl hr ha hm (by omega) (by simp [lk, lv]))
  have HRL : Hid ((shaL (5 :: (k ++ v))).length = 32) := Lib.hid (shaL_length _)
  rw [show (5 : UInt8) :: [k, v].flatten = 5 :: (k ++ v) by simp] at C
  generalize shaL (5 :: (k ++ v)) = res at *
  unfold arr8 at *
  go_enter Try.func108, Try.ntmps108
  go_upto_region 1 with fail
  generalize hW : World.alloc (World.alloc (World.alloc w _) _) _ = w0
  have h3 : Blk w0 w.heap.size 25 (bvs k) ∧ Blk w0 (w.heap.size + 1) 25 (bvs v) ∧ Blk w0 (w.heap.size + 2) 25 (bvs (zb 32)) ∧ Below w.heap.size w w0 := by rw [← hW]; exact hall
  clear hall hW
  obtain ⟨c1, c2, c3, c4⟩ := h3
  have T := two_slices w0.drew k v 25 25 w.heap.size (w.heap.size + 1) c1.drew c2.drew lk lv
  have T2 := Lib.hid T
  clear T
  refine rg_begin (Any) [4] [2, 3, 4] [0, 1, 2, 3, 4] 0 mixed (by kernel_rfl) (fun _ _ _ _ e hh => ⟨e.symm.trans hh.1, hh.2⟩) ?_
  simp only [pick, List.map_cons, List.map_nil, List.getD_cons_zero, List.getD_cons_succ]
  have hS : (Any) _ := any_at w0.drew
  refine rg_take rfl rfl hS (fun W hW => exec_arr_all ia25 _ rfl w.heap.size 0 rfl) ?_
  simp only [Act.put, List.setIfInBounds_toArray, List.set_cons_zero, List.set_cons_succ]
  refine rg_take rfl rfl hS (fun W hW => exec_arr_all ia25 _ rfl (w.heap.size + 1) 0 rfl) ?_
  simp only [Act.put, List.setIfInBounds_toArray, List.set_cons_zero, List.set_cons_succ]
  refine rg_one rfl rfl ?_; intro K hK; go_simp
  have hS1 := any_at (w0.drew.alloc (.cells #[.slice (some ⟨w.heap.size, 0, none⟩) 32 32, .slice (some ⟨w.heap.size + 1, 0, none⟩) 32 32] 24))
  refine hK _ _ (fun _ => hS1) ?_; clear hK
  refine rg_one rfl rfl ?_; intro K hK; go_simp
  refine (C _ _ _ T2.out.1 T2.out.2.1 T2.out.2.2).out.mono ?_
  rintro e w3 ⟨rfl, hw3⟩
  have hS2 := any_at w3
  refine hK _ _ (fun _ => hS2) ?_; clear hK
  refine rg_one rfl rfl ?_; intro K hK
  refine wp_store_at at25w.i (.tmp 4) (.tmp 8) rfl (w.heap.size + 2) 0 25 (bvs (zb 32)) (bvs res) rfl rfl ((c3.drew.alloc _).below hw3 (c3.drew.alloc _).lt) (by rw [bvs_length]; exact HRL.out) (by rw [bvs_length, zb_length]; omega) (bvs_one _) ?_
  intro w4 hb4 hg4 hs4
  refine hK _ _ (fun h => by cases h) ?_; clear hK
  refine rg_done (by kernel_rfl) ?_
  have c5 : Below w.heap.size w (w0.drew.alloc (.cells #[.slice (some ⟨w.heap.size, 0, none⟩) 32 32, .slice (some ⟨w.heap.size + 1, 0, none⟩) 32 32] 24)) := c4.drew.alloc (by have := c4.size; simpa using this) _
  go_wp2_with fail
  (try simp only [Exit.inBlock, Exit.then])
  rw [splice_all _ _ (by rw [bvs_length, bvs_length, zb_length]; exact HRL.out.symm)] at hb4
  refine bodyPost_ret (ret_cell rfl at25w _ _ (w.heap.size + 2) 25 (bvs res) rfl hb4 (by rw [bvs_length]; exact HRL.out)) rfl ?_
  exact ⟨rfl, (c5.trans (hw3.mono c5.size)).grown hg4 (Nat.le_trans c5.size hw3.size) (by intro k hk; cases hk; omega)⟩
set_option maxRecDepth 100000 in
set_option maxHeartbeats 1000000 in
theorem crfirst_any (w : World) : Calls Try.prog 107 #[] w fun e w' => e = .returned (arr8 (shaL [4])) ∧ Below w.heap.size w w' := by
  have hbz : Blk (w.alloc (.cells (bvs (zb 32)).toArray 25)) w.heap.size 25 (bvs (zb 32)) := Blk.new _ _ _
  have hw0 : Below w.heap.size w (w.alloc (.cells (bvs (zb 32)).toArray 25)) := (Below.refl _ _).alloc (Nat.le_refl _) _
  have C := fun u => Lib.hid (rof_is 4 4 rfl none 0 0 [] [] u rfl (Rd.nil _ _) (AllRd.nil _) (by omega) (by simp))
  have HRL : Hid ((shaL [4]).length = 32) := Lib.hid (shaL_length _)
  rw [show (4 : UInt8) :: ([] : List (List UInt8)).flatten = [4] from rfl] at C
  generalize shaL [4] = res at *
  unfold arr8 at *
  go_enter Try.func107, Try.ntmps107
  go_upto_region 1 with fail
  refine wp_region_lit ?_
  refine wpList_plain rfl fun K hK => ?_; go_simp
  refine (C _).out.mono ?_
  rintro e w3 ⟨rfl, hw3⟩
  refine hK _ _ ?_; clear hK
  (try simp only [Act.put, List.setIfInBounds_toArray, List.set_cons_zero, List.set_cons_succ])
  refine wpList_store_at at25w.i rfl (.tmp 0) (.tmp 1) rfl w.heap.size 0 25 (bvs (zb 32)) (bvs res) rfl rfl (hbz.below hw3 hbz.lt) (by rw [bvs_length]; exact HRL.out) (by rw [bvs_length, zb_length]; omega) (bvs_one _) ?_
  intro w4 hb4 hg4 hs4
  (try simp only [Act.put, List.setIfInBounds_toArray, List.set_cons_zero, List.set_cons_succ])
  refine wpList_nil ?_
  go_wp2_with fail
  (try simp only [Exit.inBlock, Exit.then])
  rw [splice_all _ _ (by rw [bvs_length, bvs_length, zb_length]; exact HRL.out.symm)] at hb4
  refine bodyPost_ret (ret_cell rfl at25w _ _ w.heap.size 25 (bvs res) rfl hb4 (by rw [bvs_length]; exact HRL.out)) rfl ?_
  exact ⟨rfl, (hw0.trans (hw3.mono hw0.size)).grown hg4 (Nat.le_trans hw0.size hw3.size) (by intro k hk; cases hk; omega)⟩
set_option maxRecDepth 100000 in
set_option maxHeartbeats 2000000 in
theorem crnext_any (k v : List UInt8) (w : World) (lk : k.length = 32) (lv : v.length = 32) :
    Calls Try.prog 109 #[arr8 k, arr8 v] w fun e w' => e = .returned (arr8 (shaL (5 :: (k ++ v)))) ∧ Below w.heap.size w w' := by
  have b1 : Blk (w.alloc (.cells (bvs k).toArray 25)) w.heap.size 25 (bvs k) := Blk.new _ _ _
  have b2 : Blk ((w.alloc (.cells (bvs k).toArray 25)).alloc (.cells (bvs v).toArray 25)) (w.heap.size + 1) 25 (bvs v) := by
    have := Blk.new (w.alloc (.cells (bvs k).toArray 25)) 25 (bvs v)
    rwa [show (w.alloc (.cells (bvs k).toArray 25)).heap.size = w.heap.size + 1 by simp] at this
  have b3 : Blk (((w.alloc (.cells (bvs k).toArray 25)).alloc (.cells (bvs v).toArray 25)).alloc (.cells (bvs (zb 32)).toArray 25)) (w.heap.size + 2) 25 (bvs (zb 32)) := by
    have := Blk.new ((w.alloc (.cells (bvs k).toArray 25)).alloc (.cells (bvs v).toArray 25)) 25 (bvs (zb 32))
    rwa [show ((w.alloc (.cells (bvs k).toArray 25)).alloc (.cells (bvs v).toArray 25)).heap.size = w.heap.size + 2 by simp] at this
  have hall := And.intro ((b1.alloc (.cells (bvs v).toArray 25)).alloc (.cells (bvs (zb 32)).toArray 25)) (And.intro (b2.alloc (.cells (bvs (zb 32)).toArray 25)) (And.intro b3
    ((((Below.refl w.heap.size w).alloc (Nat.le_refl _) (.cells (bvs k).toArray 25)).alloc (by simp) (.cells (bvs v).toArray 25)).alloc (by simp; omega) (.cells (bvs (zb 32)).toArray 25))))
  clear b1 b2 b3
  have C := fun (u : World) (A : Option Addr) (vs : List Value) (hr : Rd u A vs) (ha : AllRd u vs [k, v]) (hm : ∀ (i : Nat) (x : Value), vs[i]? = some x → capOf x ≤ maxLen) => Lib.hid (rof_is 5 5 rfl A 2 2 vs [k, v] u rfl hr ha (by omega) (by simp [lk, lv]))
  have HRL : Hid ((shaL (5 :: (k ++ v))).length = 32) := Lib.hid (shaL_length _)
  rw [show (5 : UInt8) :: [k, v].flatten = 5 :: (k ++ v) by simp] at C
  generalize shaL (5 :: (k ++ v)) = res at *
  unfold arr8 at *
  go_enter Try.func109, Try.ntmps109
  go_upto_region 1 with fail
  generalize hW : World.alloc (World.alloc (World.alloc w _) _) _ = w0
  have h3 : Blk w0 w.heap.size 25 (bvs k) ∧ Blk w0 (w.heap.size + 1) 25 (bvs v) ∧ Blk w0 (w.heap.size + 2) 25 (bvs (zb 32)) ∧ Below w.heap.size w w0 := by rw [← hW]; exact hall
  clear hall hW
  obtain ⟨c1, c2, c3, c4⟩ := h3
  have T := two_slices w0.drew k v 25 25 w.heap.size (w.heap.size + 1) c1.drew c2.drew lk lv
  have T2 := Lib.hid T
  clear T
  refine rg_begin (Any) [4] [2, 3, 4] [0, 1, 2, 3, 4] 0 mixed (by kernel_rfl) (fun _ _ _ _ e hh => ⟨e.symm.trans hh.1, hh.2⟩) ?_
  simp only [pick, List.map_cons, List.map_nil, List.getD_cons_zero, List.getD_cons_succ]
  have hS : (Any) _ := any_at w0.drew
  refine rg_take rfl rfl hS (fun W hW => exec_arr_all ia25 _ rfl w.heap.size 0 rfl) ?_
  simp only [Act.put, List.setIfInBounds_toArray, List.set_cons_zero, List.set_cons_succ]
  refine rg_take rfl rfl hS (fun W hW => exec_arr_all ia25 _ rfl (w.heap.size + 1) 0 rfl) ?_
  simp only [Act.put, List.setIfInBounds_toArray, List.set_cons_zero, List.set_cons_succ]
  refine rg_one rfl rfl ?_; intro K hK; go_simp
  have hS1 := any_at (w0.drew.alloc (.cells #[.slice (some ⟨w.heap.size, 0, none⟩) 32 32, .slice (some ⟨w.heap.size + 1, 0, none⟩) 32 32] 24))
  refine hK _ _ (fun _ => hS1) ?_; clear hK
  refine rg_one rfl rfl ?_; intro K hK; go_simp
  refine (C _ _ _ T2.out.1 T2.out.2.1 T2.out.2.2).out.mono ?_
  rintro e w3 ⟨rfl, hw3⟩
  have hS2 := any_at w3
  refine hK _ _ (fun _ => hS2) ?_; clear hK
  refine rg_one rfl rfl ?_; intro K hK
  refine wp_store_at at25w.i (.tmp 4) (.tmp 8) rfl (w.heap.size + 2) 0 25 (bvs (zb 32)) (bvs res) rfl rfl ((c3.drew.alloc _).below hw3 (c3.drew.alloc _).lt) (by rw [bvs_length]; exact HRL.out) (by rw [bvs_length, zb_length]; omega) (bvs_one _) ?_
  intro w4 hb4 hg4 hs4
  refine hK _ _ (fun h => by cases h) ?_; clear hK
  refine rg_done (by kernel_rfl) ?_
  have c5 : Below w.heap.size w (w0.drew.alloc (.cells #[.slice (some ⟨w.heap.size, 0, none⟩) 32 32, .slice (some ⟨w.heap.size + 1, 0, none⟩) 32 32] 24)) := c4.drew.alloc (by have := c4.size; simpa using this) _
  go_wp2_with fail
  (try simp only [Exit.inBlock, Exit.then])
  rw [splice_all _ _ (by rw [bvs_length, bvs_length, zb_length]; exact HRL.out.symm)] at hb4
  refine bodyPost_ret (ret_cell rfl at25w _ _ (w.heap.size + 2) 25 (bvs res) rfl hb4 (by rw [bvs_length]; exact HRL.out)) rfl ?_
  exact ⟨rfl, (c5.trans (hw3.mono c5.size)).grown hg4 (Nat.le_trans c5.size hw3.size) (by intro k hk; cases hk; omega)⟩
set_option maxRecDepth 100000 in
set_option maxHeartbeats 4000000 in
theorem fold_any (h : List UInt8) (A : Option Addr) (n c : Nat) (ls : List (List UInt8)) (w : World) (lh : h.length = 32) (hl : Hl w A n c ls) :
    Calls Try.prog 105 #[arr8 h, .slice A n c] w fun e w' => e = .returned (arr8 (foldH h ls)) ∧ Below w.heap.size w w' := by
  have HN := Lib.hid hl.len
  have hnm : n ≤ maxLen := Nat.le_trans hl.cap hl.max
  unfold maxLen at hnm
  have b1 : Blk (w.alloc (.cells (bvs h).toArray 25)) w.heap.size 25 (bvs h) := Blk.new _ _ _
  have b2 : Blk ((w.alloc (.cells (bvs h).toArray 25)).alloc (.cells (bvs (zb 32)).toArray 25)) (w.heap.size + 1) 25 (bvs (zb 32)) := by
    have := Blk.new (w.alloc (.cells (bvs h).toArray 25)) 25 (bvs (zb 32))
    rwa [show (w.alloc (.cells (bvs h).toArray 25)).heap.size = w.heap.size + 1 by simp] at this
  have hall : Blk ((w.alloc (.cells (bvs h).toArray 25)).alloc (.cells (bvs (zb 32)).toArray 25)) w.heap.size 25 (bvs h) ∧ Blk ((w.alloc (.cells (bvs h).toArray 25)).alloc (.cells (bvs (zb 32)).toArray 25)) (w.heap.size + 1) 25 (bvs (zb 32)) ∧ Below w.heap.size w ((w.alloc (.cells (bvs h).toArray 25)).alloc (.cells (bvs (zb 32)).toArray 25)) := ⟨(b1.alloc (.cells (bvs (zb 32)).toArray 25)), b2, (((Below.refl w.heap.size w).alloc (by first | exact Nat.le_refl _ | (simp; done) | (simp; omega)) (.cells (bvs h).toArray 25)).alloc (by first | exact Nat.le_refl _ | (simp; done) | (simp; omega)) (.cells (bvs (zb 32)).toArray 25))⟩
  clear b1 b2
  have HRL : Hid ((foldH h ls).length = 32) := Lib.hid (foldH_length h ls lh)
  have HL := Lib.hid (fun k => foldH_length h (ls.take k) lh)
  have HT := Lib.hid (foldH_take h ls)
  have HX := fun (x y : List UInt8) (u : World) (hx : x.length = 32) (hy : y.length = 32) => Lib.hid (cnext_any x y u hx hy)
  have HE : Hid (foldH h (ls.take n) = foldH h ls) := Lib.hid (by rw [List.take_of_length_le (by rw [hl.len]; exact Nat.le_refl _)])
  have H0 : foldH h (ls.take 0) = h := rfl
  have h0 := Lib.hid H0
  clear H0 lh
  generalize foldH h ls = res at *
  unfold arr8 at *
  go_enter Try.func105, Try.ntmps105
  go_upto_region 1 with fail
  generalize hW : World.alloc (World.alloc w _) _ = w0
  have h3 : Blk w0 w.heap.size 25 (bvs h) ∧ Blk w0 (w.heap.size + 1) 25 (bvs (zb 32)) ∧ Below w.heap.size w w0 := by rw [← hW]; exact hall
  clear hall hW
  obtain ⟨c1, c2, c0⟩ := h3
  refine wp_region_lit ?_
  refine wpList_yield rfl _ (exec_move _ rfl) ?_
  simp only [Act.put, Act.eval, Array.getD_eq_getD_getElem?, List.getElem?_toArray, List.getElem?_cons_succ, List.getElem?_cons_zero, Option.getD_some, List.setIfInBounds_toArray, List.set_cons_zero, List.set_cons_succ]
  refine wpList_yield rfl _ (exec_len132 _ rfl A n c rfl) ?_
  simp only [Act.put, List.setIfInBounds_toArray, List.set_cons_zero, List.set_cons_succ]
  refine wpList_yield rfl _ (exec_move _ rfl) ?_
  simp only [Act.put, Act.eval, Array.getD_eq_getD_getElem?, List.getElem?_toArray, List.getElem?_cons_succ, List.getElem?_cons_zero, Option.getD_some, List.setIfInBounds_toArray, List.set_cons_zero, List.set_cons_succ]
  refine wpList_nil ?_
  go_wp2_with fail
  go_loopw [9] (fun i wr => ∃ k : Nat, k ≤ n ∧ i = .int .i64 (k : Int) ∧ Blk wr w.heap.size 25 (bvs (foldH h (ls.take k))) ∧ Blk wr (w.heap.size + 1) 25 (bvs (zb 32)) ∧ Below w.heap.size w wr) (fun i _ => n - (intOf i).toNat)
  case atStart => exact ⟨0, by omega, by go_num, by rw [h0.out]; exact c1, c2, c0⟩
  case round =>
    clear c0 c1 c2
    obtain ⟨k, hk, rfl, c1, c2, c0⟩ := hrel
    by_cases hlt : k < n
    · have hltz : (k : Int) < (n : Int) := by omega
      obtain ⟨ad, rfl, hrd, h32⟩ := hl.at k hlt
      have hrd1 := hrd.below c0
      have hs := Lib.hid (HT.out k (by rw [HN.out]; exact hlt))
      have hx := HL.out k
      have hy := Lib.hid h32
      have C := fun u => HX (foldH h (ls.take k)) (ls.getD k []) u hx h32
      have hyL := Lib.hid (nextH_length (foldH h (ls.take k)) (ls.getD k []))
      obtain ⟨z, hz⟩ : ∃ z, z = foldH h (ls.take (k + 1)) := ⟨_, rfl⟩
      rw [← hz] at hs
      have HZ := Lib.hid hz
      have hxL := Lib.hid hx
      clear hz hrd h32 hx
      have C2 : ∀ u : World, Hid (Calls Try.prog 108 #[.agg (bvs (foldH h (ls.take k))).toArray, .agg (bvs (ls.getD k [])).toArray] u fun e w' => e = .returned (.agg (bvs z).toArray) ∧ Below u.heap.size u w') := by
        intro u
        rw [hs.out]
        exact C u
      have hzl : Hid (z.length = 32) := Lib.hid (by rw [hs.out]; exact hyL.out)
      clear C hs hyL
      generalize foldH h (ls.take k) = x at *
      generalize ls.getD k [] = y at *
      have b1 : Blk (wr.alloc (.cells (bvs (zb 32)).toArray 25)) wr.heap.size 25 (bvs (zb 32)) := Blk.new _ _ _
      have d1 := c1.alloc (.cells (bvs (zb 32)).toArray 25)
      have d2 := c2.alloc (.cells (bvs (zb 32)).toArray 25)
      have d0 : Below w.heap.size w (wr.alloc (.cells (bvs (zb 32)).toArray 25)) := c0.alloc c0.size _
      have hl2 := c2.lt
      go_upto_region 3 with fail
      refine wp_region_lit ?_
      refine wpList_yield rfl _ (exec_siaz Try.underlying132 sz25 _ _ rfl ad n c k _ rfl rfl hlt) ?_
      simp only [Act.put, List.setIfInBounds_toArray, List.set_cons_zero, List.set_cons_succ]
      refine wpList_yield rfl _ (exec_load_rd at25w _ rfl _ (bvs y) rfl hrd1 (by omega) (by rw [bvs_length]; exact hy.out)) ?_
      simp only [Act.put, List.setIfInBounds_toArray, List.set_cons_zero, List.set_cons_succ]
      refine wpList_plain rfl fun K hK => ?_; go_simp
      refine hK _ _ ?_; clear hK
      (try simp only [Act.put, List.setIfInBounds_toArray, List.set_cons_zero, List.set_cons_succ])
      refine wpList_store_at at25w.i rfl (.tmp 6) (.tmp 12) rfl wr.heap.size 0 25 (bvs (zb 32)) (bvs y) rfl rfl b1 (by rw [bvs_length]; exact hy.out) (by rw [bvs_length, zb_length]; omega) (bvs_one _) ?_
      intro w1 hb1 hg1 hs1
      (try simp only [Act.put, List.setIfInBounds_toArray, List.set_cons_zero, List.set_cons_succ])
      refine wpList_nil ?_
      rw [splice_all _ _ (by rw [bvs_length, bvs_length, zb_length]; exact hy.out.symm)] at hb1
      have e1 := d1.grown hg1 (by simp; omega)
      have e2 := d2.grown hg1 (by simp; omega)
      have e0 := d0.grown hg1 d0.size (by intro k hk; cases hk; exact c0.size)
      clear b1 d1 d2 d0 hg1 hs1
      generalize wr.heap.size = G at *
      go_upto_region 4 with fail
      refine wp_region_lit ?_
      refine wpList_yield rfl _ (exec_load_agg at25w (.tmp 2) rfl w.heap.size 25 (bvs x) rfl e1 (by rw [bvs_length]; exact hxL.out)) ?_
      simp only [Act.put, List.setIfInBounds_toArray, List.set_cons_zero, List.set_cons_succ]
      refine wpList_yield rfl _ (exec_load_agg at25w (.tmp 6) rfl G 25 (bvs y) rfl hb1 (by rw [bvs_length]; exact hy.out)) ?_
      simp only [Act.put, List.setIfInBounds_toArray, List.set_cons_zero, List.set_cons_succ]
      refine wpList_plain rfl fun K hK => ?_; go_simp
      with_reducible refine (C2 _).out.mono ?_
      rintro e w2 ⟨rfl, hw2⟩
      refine hK _ _ ?_; clear hK
      (try simp only [Act.put, List.setIfInBounds_toArray, List.set_cons_zero, List.set_cons_succ])
      refine wpList_store_at at25w.i rfl (.tmp 2) (.tmp 15) rfl w.heap.size 0 25 (bvs x) (bvs z) rfl rfl (e1.below hw2 e1.lt) (by rw [bvs_length]; exact hzl.out) (by rw [bvs_length, hxL.out]; exact Nat.le_refl 32) (bvs_one _) ?_
      intro w3 hb3 hg3 hs3
      (try simp only [Act.put, List.setIfInBounds_toArray, List.set_cons_zero, List.set_cons_succ])
      refine wpList_nil ?_
      have e3 := (e2.below hw2 e2.lt).grown hg3 (by simp)
      have e4 := (bthen e0 hw2 e0.size).grown hg3 (Nat.le_trans e0.size hw2.size) (by intro k hk; cases hk; exact Nat.le_refl _)
      rw [splice_all _ _ (by rw [bvs_length, bvs_length, hxL.out, hzl.out])] at hb3
      go_wp2_with fail
      go_roundw
      case rel => exact ⟨k + 1, by omega, by go_num, by rw [← HZ.out]; exact hb3, e3, e4⟩
      case measure => simp only [intOf]; omega
    · obtain rfl : n = k := by omega
      rw [HE.out] at c1
      clear HE HT HL HX
      go_upto_region 6 with fail
      refine wp_region_lit ?_
      refine wpList_yield rfl _ (exec_load_agg at25w (.tmp 2) rfl w.heap.size 25 (bvs res) rfl c1 (by rw [bvs_length]; exact HRL.out)) ?_
      simp only [Act.put, List.setIfInBounds_toArray, List.set_cons_zero, List.set_cons_succ]
      refine wpList_store_at at25w.i rfl (.tmp 4) (.tmp 17) rfl (w.heap.size + 1) 0 25 (bvs (zb 32)) (bvs res) rfl rfl c2 (by rw [bvs_length]; exact HRL.out) (by rw [bvs_length, zb_length]; omega) (bvs_one _) ?_
      intro w4 hb4 hg4 hs4
      (try simp only [Act.put, List.setIfInBounds_toArray, List.set_cons_zero, List.set_cons_succ])
      refine wpList_nil ?_
      go_wp2_with fail
      (try simp only [Exit.inBlock, Exit.then])
      rw [splice_all _ _ (by rw [bvs_length, bvs_length, zb_length]; exact HRL.out.symm)] at hb4
      refine bodyPost_ret (ret_cell rfl at25w _ _ (w.heap.size + 1) 25 (bvs res) rfl hb4 (by rw [bvs_length]; exact HRL.out)) rfl ?_
      exact ⟨rfl, c0.grown hg4 c0.size (by intro k hk; cases hk; omega)⟩
set_option maxRecDepth 100000 in
set_option maxHeartbeats 4000000 in
theorem rfold_any (h : List UInt8) (A : Option Addr) (n c : Nat) (ls : List (List UInt8)) (w : World) (lh : h.length = 32) (hl : Hl w A n c ls) :
    Calls Try.prog 104 #[arr8 h, .slice A n c] w fun e w' => e = .returned (arr8 (foldH h ls)) ∧ Below w.heap.size w w' := by
  have HN := Lib.hid hl.len
  have hnm : n ≤ maxLen := Nat.le_trans hl.cap hl.max
  unfold maxLen at hnm
  have b1 : Blk (w.alloc (.cells (bvs h).toArray 25)) w.heap.size 25 (bvs h) := Blk.new _ _ _
  have b2 : Blk ((w.alloc (.cells (bvs h).toArray 25)).alloc (.cells (bvs (zb 32)).toArray 25)) (w.heap.size + 1) 25 (bvs (zb 32)) := by
    have := Blk.new (w.alloc (.cells (bvs h).toArray 25)) 25 (bvs (zb 32))
    rwa [show (w.alloc (.cells (bvs h).toArray 25)).heap.size = w.heap.size + 1 by simp] at this
  have hall : Blk ((w.alloc (.cells (bvs h).toArray 25)).alloc (.cells (bvs (zb 32)).toArray 25)) w.heap.size 25 (bvs h) ∧ Blk ((w.alloc (.cells (bvs h).toArray 25)).alloc (.cells (bvs (zb 32)).toArray 25)) (w.heap.size + 1) 25 (bvs (zb 32)) ∧ Below w.heap.size w ((w.alloc (.cells (bvs h).toArray 25)).alloc (.cells (bvs (zb 32)).toArray 25)) := ⟨(b1.alloc (.cells (bvs (zb 32)).toArray 25)), b2, (((Below.refl w.heap.size w).alloc (by first | exact Nat.le_refl _ | (simp; done) | (simp; omega)) (.cells (bvs h).toArray 25)).alloc (by first | exact Nat.le_refl _ | (simp; done) | (simp; omega)) (.cells (bvs (zb 32)).toArray 25))⟩
  clear b1 b2
  have HRL : Hid ((foldH h ls).length = 32) := Lib.hid (foldH_length h ls lh)
  have HL := Lib.hid (fun k => foldH_length h (ls.take k) lh)
  have HT := Lib.hid (foldH_take h ls)
  have HX := fun (x y : List UInt8) (u : World) (hx : x.length = 32) (hy : y.length = 32) => Lib.hid (crnext_any x y u hx hy)
  have HE : Hid (foldH h (ls.take n) = foldH h ls) := Lib.hid (by rw [List.take_of_length_le (by rw [hl.len]; exact Nat.le_refl _)])
  have H0 : foldH h (ls.take 0) = h := rfl
  have h0 := Lib.hid H0
  clear H0 lh
  generalize foldH h ls = res at *
  unfold arr8 at *
  go_enter Try.func104, Try.ntmps104
  go_upto_region 1 with fail
  generalize hW : World.alloc (World.alloc w _) _ = w0
  have h3 : Blk w0 w.heap.size 25 (bvs h) ∧ Blk w0 (w.heap.size + 1) 25 (bvs (zb 32)) ∧ Below w.heap.size w w0 := by rw [← hW]; exact hall
  clear hall hW
  obtain ⟨c1, c2, c0⟩ := h3
  go_wp2_with fail
  go_loopw [5] (fun i wr => ∃ k : Nat, k ≤ n ∧ i = .int .i64 (k : Int) ∧ Blk wr w.heap.size 25 (bvs (foldH h (ls.take k))) ∧ Blk wr (w.heap.size + 1) 25 (bvs (zb 32)) ∧ Below w.heap.size w wr) (fun i _ => n - (intOf i).toNat)
  case atStart => exact ⟨0, by omega, by go_num, by rw [h0.out]; exact c1, c2, c0⟩
  case round =>
    clear c0 c1 c2
    obtain ⟨k, hk, rfl, c1, c2, c0⟩ := hrel
    by_cases hlt : k < n
    · have hltz : (k : Int) < (n : Int) := by omega
      obtain ⟨ad, rfl, hrd, h32⟩ := hl.at k hlt
      have hrd1 := hrd.below c0
      have hs := Lib.hid (HT.out k (by rw [HN.out]; exact hlt))
      have hx := HL.out k
      have hy := Lib.hid h32
      have C := fun u => HX (foldH h (ls.take k)) (ls.getD k []) u hx h32
      have hyL := Lib.hid (nextH_length (foldH h (ls.take k)) (ls.getD k []))
      obtain ⟨z, hz⟩ : ∃ z, z = foldH h (ls.take (k + 1)) := ⟨_, rfl⟩
      rw [← hz] at hs
      have HZ := Lib.hid hz
      have hxL := Lib.hid hx
      clear hz hrd h32 hx
      have C2 : ∀ u : World, Hid (Calls Try.prog 109 #[.agg (bvs (foldH h (ls.take k))).toArray, .agg (bvs (ls.getD k [])).toArray] u fun e w' => e = .returned (.agg (bvs z).toArray) ∧ Below u.heap.size u w') := by
        intro u
        rw [hs.out]
        exact C u
      have hzl : Hid (z.length = 32) := Lib.hid (by rw [hs.out]; exact hyL.out)
      clear C hs hyL
      generalize foldH h (ls.take k) = x at *
      generalize ls.getD k [] = y at *
      go_upto_region 4 with fail
      refine rg_begin (Below wr.heap.size wr) [6] [5, 6] [0, 1, 2, 3, 4, 5, 6] 0 mixed (by kernel_rfl) (fun _ _ _ _ e hh => ⟨e.symm.trans hh.1, hh.2⟩) ?_
      simp only [pick, List.map_cons, List.map_nil, List.getD_cons_zero, List.getD_cons_succ]
      have hS : (Below wr.heap.size wr) _ := (Below.refl _ _).drew
      refine rg_take rfl rfl hS (fun W hW => exec_load_agg at25w (.tmp 2) rfl w.heap.size 25 (bvs x) rfl (c1.below hW c1.lt) (by rw [bvs_length]; exact hxL.out)) ?_
      simp only [Act.put, List.setIfInBounds_toArray, List.set_cons_zero, List.set_cons_succ]
      refine rg_take (v := ?v3_1) rfl rfl hS ?y3_1 ?_
      case y3_1 => intro W hW; (try subst hW); go_simp; try with_reducible rfl
      simp only [Act.put, List.setIfInBounds_toArray, List.set_cons_zero, List.set_cons_succ]
      refine rg_take (v := ?v3_2) rfl rfl hS ?y3_2 ?_
      case y3_2 => intro W hW; (try subst hW); go_simp; try with_reducible rfl
      simp only [Act.put, List.setIfInBounds_toArray, List.set_cons_zero, List.set_cons_succ]
      refine rg_take rfl rfl hS (fun W hW => exec_siaz Try.underlying132 sz25 _ _ rfl ad n c k _ rfl rfl hlt) ?_
      simp only [Act.put, List.setIfInBounds_toArray, List.set_cons_zero, List.set_cons_succ]
      refine rg_take rfl rfl hS (fun W hW => exec_load_rd at25w _ rfl _ (bvs y) rfl (hrd1.below hW) (by omega) (by rw [bvs_length]; exact hy.out)) ?_
      simp only [Act.put, List.setIfInBounds_toArray, List.set_cons_zero, List.set_cons_succ]
      refine rg_one rfl rfl ?_; intro K hK; go_simp
      with_reducible refine (C2 _).out.mono ?_
      rintro e w2 ⟨rfl, hw2⟩
      have hS1 : Below wr.heap.size wr w2 := Below.trans hS (hw2.mono (Below.size hS))
      refine hK _ _ (fun _ => hS1) ?_; clear hK
      refine rg_one rfl rfl ?_; intro K hK
      refine wp_store_at at25w.i (.tmp 2) (.tmp 17) rfl w.heap.size 0 25 (bvs x) (bvs z) rfl rfl (c1.below hS1 c1.lt) (by rw [bvs_length]; exact hzl.out) (by rw [bvs_length, hxL.out]; exact Nat.le_refl 32) (bvs_one _) ?_
      intro w3 hb3 hg3 hs3
      refine hK _ _ (fun h => by cases h) ?_; clear hK
      refine rg_done (by kernel_rfl) ?_
      have e3 := (c2.below hS1 c2.lt).grown hg3 (by simp)
      have e4 := (bthen c0 hS1 c0.size).grown hg3 (Nat.le_trans c0.size hS1.size) (by intro k hk; cases hk; exact Nat.le_refl _)
      rw [splice_all _ _ (by rw [bvs_length, bvs_length, hxL.out, hzl.out])] at hb3
      go_wp2_with fail
      go_roundw
      case rel => exact ⟨k + 1, by omega, by go_num, by rw [← HZ.out]; exact hb3, e3, e4⟩
      case measure => simp only [intOf]; omega
    · obtain rfl : n = k := by omega
      rw [HE.out] at c1
      clear HE HT HL HX
      go_upto_region 5 with fail
      refine wp_region_lit ?_
      refine wpList_yield rfl _ (exec_load_agg at25w (.tmp 2) rfl w.heap.size 25 (bvs res) rfl c1 (by rw [bvs_length]; exact HRL.out)) ?_
      simp only [Act.put, List.setIfInBounds_toArray, List.set_cons_zero, List.set_cons_succ]
      refine wpList_store_at at25w.i rfl (.tmp 4) (.tmp 18) rfl (w.heap.size + 1) 0 25 (bvs (zb 32)) (bvs res) rfl rfl c2 (by rw [bvs_length]; exact HRL.out) (by rw [bvs_length, zb_length]; omega) (bvs_one _) ?_
      intro w4 hb4 hg4 hs4
      (try simp only [Act.put, List.setIfInBounds_toArray, List.set_cons_zero, List.set_cons_succ])
      refine wpList_nil ?_
      go_wp2_with fail
      (try simp only [Exit.inBlock, Exit.then])
      rw [splice_all _ _ (by rw [bvs_length, bvs_length, zb_length]; exact HRL.out.symm)] at hb4
      refine bodyPost_ret (ret_cell rfl at25w _ _ (w.heap.size + 1) 25 (bvs res) rfl hb4 (by rw [bvs_length]; exact HRL.out)) rfl ?_
      exact ⟨rfl, c0.grown hg4 c0.size (by intro k hk; cases hk; omega)⟩
set_option maxRecDepth 100000 in
set_option maxHeartbeats 1000000 in
theorem check_any (h g : List UInt8) (A : Option Addr) (n c : Nat) (ls : List (List UInt8)) (w : World) (lh : h.length = 32) (lg : g.length = 32) (hl : Hl w A n c ls) (E : Bool) (hE : (foldH h ls == g) = E) :
    Calls Try.prog 110 #[arr8 h, arr8 g, .slice A n c] w fun e w' => e = .returned (.bool E) ∧ Below w.heap.size w w' := by
  have b1 : Blk (w.alloc (.cells (bvs h).toArray 25)) w.heap.size 25 (bvs h) := Blk.new _ _ _
  have b2 : Blk ((w.alloc (.cells (bvs h).toArray 25)).alloc (.cells (bvs g).toArray 25)) (w.heap.size + 1) 25 (bvs g) := by
    have := Blk.new (w.alloc (.cells (bvs h).toArray 25)) 25 (bvs g)
    rwa [show (w.alloc (.cells (bvs h).toArray 25)).heap.size = w.heap.size + 1 by simp] at this
  have hall : Blk ((w.alloc (.cells (bvs h).toArray 25)).alloc (.cells (bvs g).toArray 25)) w.heap.size 25 (bvs h) ∧ Blk ((w.alloc (.cells (bvs h).toArray 25)).alloc (.cells (bvs g).toArray 25)) (w.heap.size + 1) 25 (bvs g) ∧ Below w.heap.size w ((w.alloc (.cells (bvs h).toArray 25)).alloc (.cells (bvs g).toArray 25)) := ⟨(b1.alloc (.cells (bvs g).toArray 25)), b2, (((Below.refl w.heap.size w).alloc (by first | exact Nat.le_refl _ | (simp; done) | (simp; omega)) (.cells (bvs h).toArray 25)).alloc (by first | exact Nat.le_refl _ | (simp; done) | (simp; omega)) (.cells (bvs g).toArray 25))⟩
  clear b1 b2
  have LH := Lib.hid lh
  have LG := Lib.hid lg
  have HE := Lib.hid hE
  have HRL : Hid ((foldH h ls).length = 32) := Lib.hid (foldH_length h ls lh)
  have C := fun (u : World) (hu : Below w.heap.size w u) => Lib.hid (fold_any h A n c ls u lh (hl.below hu))
  clear lh lg hE
  generalize foldH h ls = res at *
  unfold arr8 at *
  go_enter Try.func110, Try.ntmps110
  go_upto_region 1 with fail
  generalize hW : World.alloc (World.alloc w _) _ = w0
  have h3 : Blk w0 w.heap.size 25 (bvs h) ∧ Blk w0 (w.heap.size + 1) 25 (bvs g) ∧ Below w.heap.size w w0 := by rw [← hW]; exact hall
  clear hall hW
  obtain ⟨c1, c2, c0⟩ := h3
  refine rg_begin (Below w0.heap.size w0) [] [2] [0, 1, 3, 2, 4, 5] 0 mixed (by kernel_rfl) (fun _ _ _ _ e hh => ⟨e.symm.trans hh.1, hh.2⟩) ?_
  simp only [pick, List.map_cons, List.map_nil, List.getD_cons_zero, List.getD_cons_succ]
  have hS : (Below w0.heap.size w0) _ := (Below.refl _ _).drew
  refine rg_take rfl rfl hS (fun W hW => exec_load_agg at25w (.tmp 3) rfl w.heap.size 25 (bvs h) rfl (c1.below hW c1.lt) (by rw [bvs_length]; exact LH.out)) ?_
  simp only [Act.put, List.setIfInBounds_toArray, List.set_cons_zero, List.set_cons_succ]
  refine rg_take (v := ?v4_1) rfl rfl hS ?y4_1 ?_
  case y4_1 => intro W hW; (try subst hW); go_simp; try with_reducible rfl
  simp only [Act.put, List.setIfInBounds_toArray, List.set_cons_zero, List.set_cons_succ]
  refine rg_take rfl rfl hS (fun W hW => exec_load_agg at25w (.tmp 4) rfl (w.heap.size + 1) 25 (bvs g) rfl (c2.below hW c2.lt) (by rw [bvs_length]; exact LG.out)) ?_
  simp only [Act.put, List.setIfInBounds_toArray, List.set_cons_zero, List.set_cons_succ]
  refine rg_one rfl rfl ?_; intro K hK; go_simp
  with_reducible refine (C _ (c0.trans (Below.mono hS c0.size))).out.mono ?_
  rintro e w2 ⟨rfl, hw2⟩
  have hS1 : Below w0.heap.size w0 w2 := Below.trans hS (hw2.mono (Below.size hS))
  refine hK _ _ (fun _ => hS1) ?_; clear hK
  refine rg_take rfl rfl hS1 (fun W hW => exec_eql_to ab25 _ _ rfl res g rfl rfl HRL.out LG.out HE.out) ?_
  simp only [Act.put, List.setIfInBounds_toArray, List.set_cons_zero, List.set_cons_succ]
  refine rg_take (v := ?v4_5) rfl rfl hS1 ?y4_5 ?_
  case y4_5 => intro W hW; (try subst hW); go_simp; try with_reducible rfl
  simp only [Act.put, List.setIfInBounds_toArray, List.set_cons_zero, List.set_cons_succ]
  refine rg_done (by kernel_rfl) ?_
  go_wp2_with fail
  go_ret
  exact ⟨rfl, c0.trans (Below.mono hS1 c0.size)⟩
end Go.Proofs.Ytehbahobkgoapaa
namespace Go.Proofs.Ytehbahobkgoapaa
open Go Go.RowKit
set_option linter.unusedSimpArgs false
set_option linter.unusedVariables false
theorem _root_.Go.RowKit.Below.then {a b c : World} (h : Below a.heap.size a b) (k : Below b.heap.size b c) : Below a.heap.size a c := h.trans (k.mono h.size)
end Go.Proofs.Ytehbahobkgoapaa
namespace Go.Proofs.Ytehbahobkgoapaa
open Go Go.RowKit
set_option linter.unusedSimpArgs false
set_option linter.unusedVariables false
theorem Tx.rd {w : World} {A : Option Addr} {n c : Nat} {l : List UInt8} (h : Tx w A n c l) : Rd w A (bvs l) := Lft.rd h
theorem Tx.len {w : World} {A : Option Addr} {n c : Nat} {l : List UInt8} (h : Tx w A n c l) : l.length = n := Lft.len h
theorem Tx.cap {w : World} {A : Option Addr} {n c : Nat} {l : List UInt8} (h : Tx w A n c l) : n ≤ c := Lft.cap h
theorem Tx.max {w : World} {A : Option Addr} {n c : Nat} {l : List UInt8} (h : Tx w A n c l) : c ≤ maxLen := Lft.max h
end Go.Proofs.Ytehbahobkgoapaa
namespace Go.Proofs.Ytehbahobkgoapaa
open Go Go.RowKit
set_option linter.unusedSimpArgs false
set_option linter.unusedVariables false
theorem list_ne (ls ks : List (List UInt8)) (k : Nat) (h : ls.getD k [] ≠ ks.getD k []) : (ls == ks) = false := by
  rw [beq_eq_false_iff_ne]; intro e; exact h (by rw [e])
theorem list_ne8 (ls ks : List UInt8) (k : Nat) (h : ls.getD k 0 ≠ ks.getD k 0) : (ls == ks) = false := by
  rw [beq_eq_false_iff_ne]; intro e; exact h (by rw [e])
theorem take_succ_eq {α : Type} (z : α) (ls ks : List α) (k : Nat) (hl : k < ls.length) (hk : k < ks.length) (h : ls.take k = ks.take k) (e : ls.getD k z = ks.getD k z) : ls.take (k + 1) = ks.take (k + 1) := by
  rw [List.take_succ_eq_append_getElem hl, List.take_succ_eq_append_getElem hk, h]
  rw [List.getD_eq_getElem?_getD, List.getD_eq_getElem?_getD, List.getElem?_eq_getElem hl, List.getElem?_eq_getElem hk] at e
  simp only [Option.getD_some] at e
  rw [e]
theorem exec_neq_to {P : Program} {w : World} {a : Act} {o : Oper} {T T' n : Nat} {b : Bool} (B : AB P T n) (x y : Operand) (ho : o.op = .binOp .neq T x y T') (xs ys : List UInt8) (ex : a.eval x = .agg (bvs xs).toArray) (ey : a.eval y = .agg (bvs ys).toArray) (hx : xs.length = n) (hy : ys.length = n) (h : (xs == ys) = !b) :
    (execOp a.eval o).run P w = .ok (.value (.bool b)) w := by rw [exec_neq_arr B x y ho xs ys ex ey hx hy, h, Bool.not_not]
theorem exec_bneq {P : Program} {w : World} {a : Act} {o : Oper} {t t' : TypeId} {b : Bool} (x y : Operand) (ho : o.op = .binOp .neq t x y t') (m n : UInt8) (hx : a.eval x = .int .u8 (m.toNat : Int)) (hy : a.eval y = .int .u8 (n.toNat : Int)) (h : (m == n) = !b) :
    (execOp a.eval o).run P w = .ok (.value (.bool b)) w := by
  have e : ((m.toNat : Int) == (n.toNat : Int)) = (m == n) := by
    rw [Bool.eq_iff_iff]
    simp only [beq_iff_eq, ← UInt8.toNat_inj]
    omega
  rw [h] at e
  unfold execOp
  simp only [ho, hx, hy]
  go_simp
  cases b <;> simp_all
set_option maxRecDepth 100000 in
set_option maxHeartbeats 4000000 in
theorem sameL143 (A : Option Addr) (n c : Nat) (ls : List (List UInt8)) (B : Option Addr) (m d : Nat) (ks : List (List UInt8)) (w : World) (h1 : Hl w A n c ls) (h2 : Hl w B m d ks) (E : Bool) (hE : (ls == ks) = E) :
    Calls Try.prog 143 #[.slice A n c, .slice B m d] w fun e w' => e = .returned (.bool E) ∧ Below w.heap.size w w' := by
  have L1 := Lib.hid h1.len
  have L2 := Lib.hid h2.len
  have hnm : n ≤ maxLen := Nat.le_trans h1.cap h1.max
  unfold maxLen at hnm
  by_cases hq : n = m
  · subst hq
    have HE := Lib.hid hE
    clear hE
    go_enter Try.func143, Try.ntmps143
    go_wp2_with fail
    go_loopw [13] (fun i wr => ∃ k : Nat, k ≤ n ∧ i = .int .i64 (k : Int) ∧ Hid (ls.take k = ks.take k) ∧ Below w.heap.size w wr) (fun i _ => n - (intOf i).toNat)
    case atStart => exact ⟨0, by omega, by go_num, rfl, Below.refl _ _⟩
    case round =>
      obtain ⟨k, hk, rfl, htk, hw⟩ := hrel
      by_cases hlt : k < n
      · have hltz : (k : Int) < (n : Int) := by omega
        obtain ⟨pa, rfl, x0, x32⟩ := h1.at k hlt
        obtain ⟨pb, rfl, y0, y32⟩ := h2.at k hlt
        have x1 := x0.below hw
        have y1 := y0.below hw
        have e1 := Lib.hid x32
        have e2 := Lib.hid y32
        clear x0 y0 x32 y32
        by_cases hxy : ls.getD k [] = ks.getD k []
        · have HT := Lib.hid (take_succ_eq [] ls ks k (by rw [L1.out]; exact hlt) (by rw [L2.out]; exact hlt) htk.out hxy)
          have hb : Hid ((ls.getD k [] == ks.getD k []) = !false) := Lib.hid (by rw [hxy]; simp)
          clear hxy
          generalize ls.getD k [] = x at *
          generalize ks.getD k [] = y at *
          go_upto_region 6 with fail
          refine rg_begin (Below wr.heap.size wr) [] [] [0, 1, 2, 3, 4, 5, 6, 7, 8] 0 mixed (by kernel_rfl) (fun _ _ _ _ e hh => ⟨e.symm.trans hh.1, hh.2⟩) ?_
          simp only [pick, List.map_cons, List.map_nil, List.getD_cons_zero, List.getD_cons_succ]
          have hS : (Below wr.heap.size wr) _ := (Below.refl _ _).drew
          refine rg_take (v := ?v1_0) rfl rfl hS ?y1_0 ?_
          case y1_0 => intro W hW; (try subst hW); go_simp; try with_reducible rfl
          simp only [Act.put, List.setIfInBounds_toArray, List.set_cons_zero, List.set_cons_succ]
          refine rg_take (v := ?v1_1) rfl rfl hS ?y1_1 ?_
          case y1_1 => intro W hW; (try subst hW); go_simp; try with_reducible rfl
          simp only [Act.put, List.setIfInBounds_toArray, List.set_cons_zero, List.set_cons_succ]
          refine rg_take rfl rfl hS (fun W hW => exec_siaz Try.underlying132 sz25 _ _ rfl pa n c k _ rfl rfl hlt) ?_
          simp only [Act.put, List.setIfInBounds_toArray, List.set_cons_zero, List.set_cons_succ]
          refine rg_take rfl rfl hS (fun W hW => exec_load_rd at25w _ rfl _ (bvs x) rfl (x1.below hW) (by omega) (by rw [bvs_length]; exact e1.out)) ?_
          simp only [Act.put, List.setIfInBounds_toArray, List.set_cons_zero, List.set_cons_succ]
          refine rg_take (v := ?v1_4) rfl rfl hS ?y1_4 ?_
          case y1_4 => intro W hW; (try subst hW); go_simp; try with_reducible rfl
          simp only [Act.put, List.setIfInBounds_toArray, List.set_cons_zero, List.set_cons_succ]
          refine rg_take (v := ?v1_5) rfl rfl hS ?y1_5 ?_
          case y1_5 => intro W hW; (try subst hW); go_simp; try with_reducible rfl
          simp only [Act.put, List.setIfInBounds_toArray, List.set_cons_zero, List.set_cons_succ]
          refine rg_take rfl rfl hS (fun W hW => exec_siaz Try.underlying132 sz25 _ _ rfl pb n d k _ rfl rfl hlt) ?_
          simp only [Act.put, List.setIfInBounds_toArray, List.set_cons_zero, List.set_cons_succ]
          refine rg_take rfl rfl hS (fun W hW => exec_load_rd at25w _ rfl _ (bvs y) rfl (y1.below hW) (by omega) (by rw [bvs_length]; exact e2.out)) ?_
          simp only [Act.put, List.setIfInBounds_toArray, List.set_cons_zero, List.set_cons_succ]
          refine rg_take rfl rfl hS (fun W hW => exec_neq_to ab25 _ _ rfl x y rfl rfl e1.out e2.out hb.out) ?_
          simp only [Act.put, List.setIfInBounds_toArray, List.set_cons_zero, List.set_cons_succ]
          refine rg_done (by kernel_rfl) ?_
          go_wp2_with fail
          go_roundw
          case rel => exact ⟨k + 1, by omega, by go_num, HT, hw.drew⟩
          case measure => simp only [intOf]; omega
        · obtain rfl : E = false := by rw [← HE.out]; exact list_ne ls ks k hxy
          have hb : Hid ((ls.getD k [] == ks.getD k []) = !true) := Lib.hid (by simp only [Bool.not_true, beq_eq_false_iff_ne]; exact hxy)
          clear hxy
          generalize ls.getD k [] = x at *
          generalize ks.getD k [] = y at *
          go_upto_region 6 with fail
          refine rg_begin (Below wr.heap.size wr) [] [] [0, 1, 2, 3, 4, 5, 6, 7, 8] 0 mixed (by kernel_rfl) (fun _ _ _ _ e hh => ⟨e.symm.trans hh.1, hh.2⟩) ?_
          simp only [pick, List.map_cons, List.map_nil, List.getD_cons_zero, List.getD_cons_succ]
          have hS : (Below wr.heap.size wr) _ := (Below.refl _ _).drew
          refine rg_take (v := ?v2_0) rfl rfl hS ?y2_0 ?_
          case y2_0 => intro W hW; (try subst hW); go_simp; try with_reducible rfl
          simp only [Act.put, List.setIfInBounds_toArray, List.set_cons_zero, List.set_cons_succ]
          refine rg_take (v := ?v2_1) rfl rfl hS ?y2_1 ?_
          case y2_1 => intro W hW; (try subst hW); go_simp; try with_reducible rfl
          simp only [Act.put, List.setIfInBounds_toArray, List.set_cons_zero, List.set_cons_succ]
          refine rg_take rfl rfl hS (fun W hW => exec_siaz Try.underlying132 sz25 _ _ rfl pa n c k _ rfl rfl hlt) ?_
          simp only [Act.put, List.setIfInBounds_toArray, List.set_cons_zero, List.set_cons_succ]
          refine rg_take rfl rfl hS (fun W hW => exec_load_rd at25w _ rfl _ (bvs x) rfl (x1.below hW) (by omega) (by rw [bvs_length]; exact e1.out)) ?_
          simp only [Act.put, List.setIfInBounds_toArray, List.set_cons_zero, List.set_cons_succ]
          refine rg_take (v := ?v2_4) rfl rfl hS ?y2_4 ?_
          case y2_4 => intro W hW; (try subst hW); go_simp; try with_reducible rfl
          simp only [Act.put, List.setIfInBounds_toArray, List.set_cons_zero, List.set_cons_succ]
          refine rg_take (v := ?v2_5) rfl rfl hS ?y2_5 ?_
          case y2_5 => intro W hW; (try subst hW); go_simp; try with_reducible rfl
          simp only [Act.put, List.setIfInBounds_toArray, List.set_cons_zero, List.set_cons_succ]
          refine rg_take rfl rfl hS (fun W hW => exec_siaz Try.underlying132 sz25 _ _ rfl pb n d k _ rfl rfl hlt) ?_
          simp only [Act.put, List.setIfInBounds_toArray, List.set_cons_zero, List.set_cons_succ]
          refine rg_take rfl rfl hS (fun W hW => exec_load_rd at25w _ rfl _ (bvs y) rfl (y1.below hW) (by omega) (by rw [bvs_length]; exact e2.out)) ?_
          simp only [Act.put, List.setIfInBounds_toArray, List.set_cons_zero, List.set_cons_succ]
          refine rg_take rfl rfl hS (fun W hW => exec_neq_to ab25 _ _ rfl x y rfl rfl e1.out e2.out hb.out) ?_
          simp only [Act.put, List.setIfInBounds_toArray, List.set_cons_zero, List.set_cons_succ]
          refine rg_done (by kernel_rfl) ?_
          go_wp2_with fail
          go_ret
          exact ⟨rfl, hw.drew⟩
      · obtain rfl : k = n := by omega
        have e3 : ls = ks := by
          have h := htk.out
          rwa [List.take_of_length_le (by rw [L1.out]; exact Nat.le_refl _), List.take_of_length_le (by rw [L2.out]; exact Nat.le_refl _)] at h
        obtain rfl : E = true := by rw [← HE.out, e3]; simp
        clear e3
        go_wp2_with fail
        go_ret
        exact ⟨rfl, hw⟩
  · obtain rfl : E = false := by
      rw [← hE, beq_eq_false_iff_ne]
      intro e
      apply hq
      rw [← L1.out, ← L2.out, e]
    have hz : ((n : Int) == (m : Int)) = false := by simp; omega
    clear hE
    go_enter Try.func143, Try.ntmps143
    go_wp2_with fail
    go_ret
    exact ⟨rfl, Below.refl _ _⟩
set_option maxRecDepth 100000 in
set_option maxHeartbeats 4000000 in
theorem sameL146 (A : Option Addr) (n c : Nat) (ls : List (List UInt8)) (B : Option Addr) (m d : Nat) (ks : List (List UInt8)) (w : World) (h1 : Hl w A n c ls) (h2 : Hl w B m d ks) (E : Bool) (hE : (ls == ks) = E) :
    Calls Try.prog 146 #[.slice A n c, .slice B m d] w fun e w' => e = .returned (.bool E) ∧ Below w.heap.size w w' := by
  have L1 := Lib.hid h1.len
  have L2 := Lib.hid h2.len
  have hnm : n ≤ maxLen := Nat.le_trans h1.cap h1.max
  unfold maxLen at hnm
  by_cases hq : n = m
  · subst hq
    have HE := Lib.hid hE
    clear hE
    go_enter Try.func146, Try.ntmps146
    go_wp2_with fail
    go_loopw [5] (fun i wr => ∃ k : Nat, k ≤ n ∧ i = .int .i64 (k : Int) ∧ Hid (ls.take k = ks.take k) ∧ Below w.heap.size w wr) (fun i _ => n - (intOf i).toNat)
    case atStart => exact ⟨0, by omega, by go_num, rfl, Below.refl _ _⟩
    case round =>
      obtain ⟨k, hk, rfl, htk, hw⟩ := hrel
      by_cases hlt : k < n
      · have hltz : (k : Int) < (n : Int) := by omega
        obtain ⟨pa, rfl, x0, x32⟩ := h1.at k hlt
        obtain ⟨pb, rfl, y0, y32⟩ := h2.at k hlt
        have x1 := x0.below hw
        have y1 := y0.below hw
        have e1 := Lib.hid x32
        have e2 := Lib.hid y32
        clear x0 y0 x32 y32
        by_cases hxy : ls.getD k [] = ks.getD k []
        · have HT := Lib.hid (take_succ_eq [] ls ks k (by rw [L1.out]; exact hlt) (by rw [L2.out]; exact hlt) htk.out hxy)
          have hb : Hid ((ls.getD k [] == ks.getD k []) = !false) := Lib.hid (by rw [hxy]; simp)
          clear hxy
          generalize ls.getD k [] = x at *
          generalize ks.getD k [] = y at *
          go_upto_region 6 with fail
          refine rg_begin (Below wr.heap.size wr) [] [] [0, 1, 2, 3, 4, 5, 6, 7, 8] 0 mixed (by kernel_rfl) (fun _ _ _ _ e hh => ⟨e.symm.trans hh.1, hh.2⟩) ?_
          simp only [pick, List.map_cons, List.map_nil, List.getD_cons_zero, List.getD_cons_succ]
          have hS : (Below wr.heap.size wr) _ := (Below.refl _ _).drew
          refine rg_take (v := ?v3_0) rfl rfl hS ?y3_0 ?_
          case y3_0 => intro W hW; (try subst hW); go_simp; try with_reducible rfl
          simp only [Act.put, List.setIfInBounds_toArray, List.set_cons_zero, List.set_cons_succ]
          refine rg_take (v := ?v3_1) rfl rfl hS ?y3_1 ?_
          case y3_1 => intro W hW; (try subst hW); go_simp; try with_reducible rfl
          simp only [Act.put, List.setIfInBounds_toArray, List.set_cons_zero, List.set_cons_succ]
          refine rg_take rfl rfl hS (fun W hW => exec_siaz Try.underlying132 sz25 _ _ rfl pa n c k _ rfl rfl hlt) ?_
          simp only [Act.put, List.setIfInBounds_toArray, List.set_cons_zero, List.set_cons_succ]
          refine rg_take rfl rfl hS (fun W hW => exec_load_rd at25w _ rfl _ (bvs x) rfl (x1.below hW) (by omega) (by rw [bvs_length]; exact e1.out)) ?_
          simp only [Act.put, List.setIfInBounds_toArray, List.set_cons_zero, List.set_cons_succ]
          refine rg_take (v := ?v3_4) rfl rfl hS ?y3_4 ?_
          case y3_4 => intro W hW; (try subst hW); go_simp; try with_reducible rfl
          simp only [Act.put, List.setIfInBounds_toArray, List.set_cons_zero, List.set_cons_succ]
          refine rg_take (v := ?v3_5) rfl rfl hS ?y3_5 ?_
          case y3_5 => intro W hW; (try subst hW); go_simp; try with_reducible rfl
          simp only [Act.put, List.setIfInBounds_toArray, List.set_cons_zero, List.set_cons_succ]
          refine rg_take rfl rfl hS (fun W hW => exec_siaz Try.underlying132 sz25 _ _ rfl pb n d k _ rfl rfl hlt) ?_
          simp only [Act.put, List.setIfInBounds_toArray, List.set_cons_zero, List.set_cons_succ]
          refine rg_take rfl rfl hS (fun W hW => exec_load_rd at25w _ rfl _ (bvs y) rfl (y1.below hW) (by omega) (by rw [bvs_length]; exact e2.out)) ?_
          simp only [Act.put, List.setIfInBounds_toArray, List.set_cons_zero, List.set_cons_succ]
          refine rg_take rfl rfl hS (fun W hW => exec_neq_to ab25 _ _ rfl x y rfl rfl e1.out e2.out hb.out) ?_
          simp only [Act.put, List.setIfInBounds_toArray, List.set_cons_zero, List.set_cons_succ]
          refine rg_done (by kernel_rfl) ?_
          go_wp2_with fail
          go_roundw
          case rel => exact ⟨k + 1, by omega, by go_num, HT, hw.drew⟩
          case measure => simp only [intOf]; omega
        · obtain rfl : E = false := by rw [← HE.out]; exact list_ne ls ks k hxy
          have hb : Hid ((ls.getD k [] == ks.getD k []) = !true) := Lib.hid (by simp only [Bool.not_true, beq_eq_false_iff_ne]; exact hxy)
          clear hxy
          generalize ls.getD k [] = x at *
          generalize ks.getD k [] = y at *
          go_upto_region 6 with fail
          refine rg_begin (Below wr.heap.size wr) [] [] [0, 1, 2, 3, 4, 5, 6, 7, 8] 0 mixed (by kernel_rfl) (fun _ _ _ _ e hh => ⟨e.symm.trans hh.1, hh.2⟩) ?_
          simp only [pick, List.map_cons, List.map_nil, List.getD_cons_zero, List.getD_cons_succ]
          have hS : (Below wr.heap.size wr) _ := (Below.refl _ _).drew
          refine rg_take (v := ?v4_0) rfl rfl hS ?y4_0 ?_
          case y4_0 => intro W hW; (try subst hW); go_simp; try with_reducible rfl
          simp only [Act.put, List.setIfInBounds_toArray, List.set_cons_zero, List.set_cons_succ]
          refine rg_take (v := ?v4_1) rfl rfl hS ?y4_1 ?_
          case y4_1 => intro W hW; (try subst hW); go_simp; try with_reducible rfl
          simp only [Act.put, List.setIfInBounds_toArray, List.set_cons_zero, List.set_cons_succ]
          refine rg_take rfl rfl hS (fun W hW => exec_siaz Try.underlying132 sz25 _ _ rfl pa n c k _ rfl rfl hlt) ?_
          simp only [Act.put, List.setIfInBounds_toArray, List.set_cons_zero, List.set_cons_succ]
          refine rg_take rfl rfl hS (fun W hW => exec_load_rd at25w _ rfl _ (bvs x) rfl (x1.below hW) (by omega) (by rw [bvs_length]; exact e1.out)) ?_
          simp only [Act.put, List.setIfInBounds_toArray, List.set_cons_zero, List.set_cons_succ]
          refine rg_take (v := ?v4_4) rfl rfl hS ?y4_4 ?_
          case y4_4 => intro W hW; (try subst hW); go_simp; try with_reducible rfl
          simp only [Act.put, List.setIfInBounds_toArray, List.set_cons_zero, List.set_cons_succ]
          refine rg_take (v := ?v4_5) rfl rfl hS ?y4_5 ?_
          case y4_5 => intro W hW; (try subst hW); go_simp; try with_reducible rfl
          simp only [Act.put, List.setIfInBounds_toArray, List.set_cons_zero, List.set_cons_succ]
          refine rg_take rfl rfl hS (fun W hW => exec_siaz Try.underlying132 sz25 _ _ rfl pb n d k _ rfl rfl hlt) ?_
          simp only [Act.put, List.setIfInBounds_toArray, List.set_cons_zero, List.set_cons_succ]
          refine rg_take rfl rfl hS (fun W hW => exec_load_rd at25w _ rfl _ (bvs y) rfl (y1.below hW) (by omega) (by rw [bvs_length]; exact e2.out)) ?_
          simp only [Act.put, List.setIfInBounds_toArray, List.set_cons_zero, List.set_cons_succ]
          refine rg_take rfl rfl hS (fun W hW => exec_neq_to ab25 _ _ rfl x y rfl rfl e1.out e2.out hb.out) ?_
          simp only [Act.put, List.setIfInBounds_toArray, List.set_cons_zero, List.set_cons_succ]
          refine rg_done (by kernel_rfl) ?_
          go_wp2_with fail
          go_ret
          exact ⟨rfl, hw.drew⟩
      · obtain rfl : k = n := by omega
        have e3 : ls = ks := by
          have h := htk.out
          rwa [List.take_of_length_le (by rw [L1.out]; exact Nat.le_refl _), List.take_of_length_le (by rw [L2.out]; exact Nat.le_refl _)] at h
        obtain rfl : E = true := by rw [← HE.out, e3]; simp
        clear e3
        go_wp2_with fail
        go_ret
        exact ⟨rfl, hw⟩
  · obtain rfl : E = false := by
      rw [← hE, beq_eq_false_iff_ne]
      intro e
      apply hq
      rw [← L1.out, ← L2.out, e]
    have hz : ((n : Int) == (m : Int)) = false := by simp; omega
    clear hE
    go_enter Try.func146, Try.ntmps146
    go_wp2_with fail
    go_ret
    exact ⟨rfl, Below.refl _ _⟩
set_option maxRecDepth 100000 in
set_option maxHeartbeats 4000000 in
theorem sameL111 (A : Option Addr) (n c : Nat) (ls : List (List UInt8)) (B : Option Addr) (m d : Nat) (ks : List (List UInt8)) (w : World) (h1 : Hl w A n c ls) (h2 : Hl w B m d ks) (E : Bool) (hE : (ls == ks) = E) :
    Calls Try.prog 111 #[.slice A n c, .slice B m d] w fun e w' => e = .returned (.bool E) ∧ Below w.heap.size w w' := by
  have L1 := Lib.hid h1.len
  have L2 := Lib.hid h2.len
  have hnm : n ≤ maxLen := Nat.le_trans h1.cap h1.max
  unfold maxLen at hnm
  by_cases hq : n = m
  · subst hq
    have HE := Lib.hid hE
    clear hE
    go_enter Try.func111, Try.ntmps111
    go_wp2_with fail
    go_loopw [5] (fun i wr => ∃ k : Nat, k ≤ n ∧ i = .int .i64 (k : Int) ∧ Hid (ls.take k = ks.take k) ∧ Below w.heap.size w wr) (fun i _ => n - (intOf i).toNat)
    case atStart => exact ⟨0, by omega, by go_num, rfl, Below.refl _ _⟩
    case round =>
      obtain ⟨k, hk, rfl, htk, hw⟩ := hrel
      by_cases hlt : k < n
      · have hltz : (k : Int) < (n : Int) := by omega
        obtain ⟨pa, rfl, x0, x32⟩ := h1.at k hlt
        obtain ⟨pb, rfl, y0, y32⟩ := h2.at k hlt
        have x1 := x0.below hw
        have y1 := y0.below hw
        have e1 := Lib.hid x32
        have e2 := Lib.hid y32
        clear x0 y0 x32 y32
        by_cases hxy : ls.getD k [] = ks.getD k []
        · have HT := Lib.hid (take_succ_eq [] ls ks k (by rw [L1.out]; exact hlt) (by rw [L2.out]; exact hlt) htk.out hxy)
          have hb : Hid ((ls.getD k [] == ks.getD k []) = !false) := Lib.hid (by rw [hxy]; simp)
          clear hxy
          generalize ls.getD k [] = x at *
          generalize ks.getD k [] = y at *
          go_upto_region 6 with fail
          refine rg_begin (Below wr.heap.size wr) [] [] [0, 1, 2, 3, 4, 5, 6, 7, 8] 0 mixed (by kernel_rfl) (fun _ _ _ _ e hh => ⟨e.symm.trans hh.1, hh.2⟩) ?_
          simp only [pick, List.map_cons, List.map_nil, List.getD_cons_zero, List.getD_cons_succ]
          have hS : (Below wr.heap.size wr) _ := (Below.refl _ _).drew
          refine rg_take (v := ?v5_0) rfl rfl hS ?y5_0 ?_
          case y5_0 => intro W hW; (try subst hW); go_simp; try with_reducible rfl
          simp only [Act.put, List.setIfInBounds_toArray, List.set_cons_zero, List.set_cons_succ]
          refine rg_take (v := ?v5_1) rfl rfl hS ?y5_1 ?_
          case y5_1 => intro W hW; (try subst hW); go_simp; try with_reducible rfl
          simp only [Act.put, List.setIfInBounds_toArray, List.set_cons_zero, List.set_cons_succ]
          refine rg_take rfl rfl hS (fun W hW => exec_siaz Try.underlying132 sz25 _ _ rfl pa n c k _ rfl rfl hlt) ?_
          simp only [Act.put, List.setIfInBounds_toArray, List.set_cons_zero, List.set_cons_succ]
          refine rg_take rfl rfl hS (fun W hW => exec_load_rd at25w _ rfl _ (bvs x) rfl (x1.below hW) (by omega) (by rw [bvs_length]; exact e1.out)) ?_
          simp only [Act.put, List.setIfInBounds_toArray, List.set_cons_zero, List.set_cons_succ]
          refine rg_take (v := ?v5_4) rfl rfl hS ?y5_4 ?_
          case y5_4 => intro W hW; (try subst hW); go_simp; try with_reducible rfl
          simp only [Act.put, List.setIfInBounds_toArray, List.set_cons_zero, List.set_cons_succ]
          refine rg_take (v := ?v5_5) rfl rfl hS ?y5_5 ?_
          case y5_5 => intro W hW; (try subst hW); go_simp; try with_reducible rfl
          simp only [Act.put, List.setIfInBounds_toArray, List.set_cons_zero, List.set_cons_succ]
          refine rg_take rfl rfl hS (fun W hW => exec_siaz Try.underlying132 sz25 _ _ rfl pb n d k _ rfl rfl hlt) ?_
          simp only [Act.put, List.setIfInBounds_toArray, List.set_cons_zero, List.set_cons_succ]
          refine rg_take rfl rfl hS (fun W hW => exec_load_rd at25w _ rfl _ (bvs y) rfl (y1.below hW) (by omega) (by rw [bvs_length]; exact e2.out)) ?_
          simp only [Act.put, List.setIfInBounds_toArray, List.set_cons_zero, List.set_cons_succ]
          refine rg_take rfl rfl hS (fun W hW => exec_neq_to ab25 _ _ rfl x y rfl rfl e1.out e2.out hb.out) ?_
          simp only [Act.put, List.setIfInBounds_toArray, List.set_cons_zero, List.set_cons_succ]
          refine rg_done (by kernel_rfl) ?_
          go_wp2_with fail
          go_roundw
          case rel => exact ⟨k + 1, by omega, by go_num, HT, hw.drew⟩
          case measure => simp only [intOf]; omega
        · obtain rfl : E = false := by rw [← HE.out]; exact list_ne ls ks k hxy
          have hb : Hid ((ls.getD k [] == ks.getD k []) = !true) := Lib.hid (by simp only [Bool.not_true, beq_eq_false_iff_ne]; exact hxy)
          clear hxy
          generalize ls.getD k [] = x at *
          generalize ks.getD k [] = y at *
          go_upto_region 6 with fail
          refine rg_begin (Below wr.heap.size wr) [] [] [0, 1, 2, 3, 4, 5, 6, 7, 8] 0 mixed (by kernel_rfl) (fun _ _ _ _ e hh => ⟨e.symm.trans hh.1, hh.2⟩) ?_
          simp only [pick, List.map_cons, List.map_nil, List.getD_cons_zero, List.getD_cons_succ]
          have hS : (Below wr.heap.size wr) _ := (Below.refl _ _).drew
          refine rg_take (v := ?v6_0) rfl rfl hS ?y6_0 ?_
          case y6_0 => intro W hW; (try subst hW); go_simp; try with_reducible rfl
          simp only [Act.put, List.setIfInBounds_toArray, List.set_cons_zero, List.set_cons_succ]
          refine rg_take (v := ?v6_1) rfl rfl hS ?y6_1 ?_
          case y6_1 => intro W hW; (try subst hW); go_simp; try with_reducible rfl
          simp only [Act.put, List.setIfInBounds_toArray, List.set_cons_zero, List.set_cons_succ]
          refine rg_take rfl rfl hS (fun W hW => exec_siaz Try.underlying132 sz25 _ _ rfl pa n c k _ rfl rfl hlt) ?_
          simp only [Act.put, List.setIfInBounds_toArray, List.set_cons_zero, List.set_cons_succ]
          refine rg_take rfl rfl hS (fun W hW => exec_load_rd at25w _ rfl _ (bvs x) rfl (x1.below hW) (by omega) (by rw [bvs_length]; exact e1.out)) ?_
          simp only [Act.put, List.setIfInBounds_toArray, List.set_cons_zero, List.set_cons_succ]
          refine rg_take (v := ?v6_4) rfl rfl hS ?y6_4 ?_
          case y6_4 => intro W hW; (try subst hW); go_simp; try with_reducible rfl
          simp only [Act.put, List.setIfInBounds_toArray, List.set_cons_zero, List.set_cons_succ]
          refine rg_take (v := ?v6_5) rfl rfl hS ?y6_5 ?_
          case y6_5 => intro W hW; (try subst hW); go_simp; try with_reducible rfl
          simp only [Act.put, List.setIfInBounds_toArray, List.set_cons_zero, List.set_cons_succ]
          refine rg_take rfl rfl hS (fun W hW => exec_siaz Try.underlying132 sz25 _ _ rfl pb n d k _ rfl rfl hlt) ?_
          simp only [Act.put, List.setIfInBounds_toArray, List.set_cons_zero, List.set_cons_succ]
          refine rg_take rfl rfl hS (fun W hW => exec_load_rd at25w _ rfl _ (bvs y) rfl (y1.below hW) (by omega) (by rw [bvs_length]; exact e2.out)) ?_
          simp only [Act.put, List.setIfInBounds_toArray, List.set_cons_zero, List.set_cons_succ]
          refine rg_take rfl rfl hS (fun W hW => exec_neq_to ab25 _ _ rfl x y rfl rfl e1.out e2.out hb.out) ?_
          simp only [Act.put, List.setIfInBounds_toArray, List.set_cons_zero, List.set_cons_succ]
          refine rg_done (by kernel_rfl) ?_
          go_wp2_with fail
          go_ret
          exact ⟨rfl, hw.drew⟩
      · obtain rfl : k = n := by omega
        have e3 : ls = ks := by
          have h := htk.out
          rwa [List.take_of_length_le (by rw [L1.out]; exact Nat.le_refl _), List.take_of_length_le (by rw [L2.out]; exact Nat.le_refl _)] at h
        obtain rfl : E = true := by rw [← HE.out, e3]; simp
        clear e3
        go_wp2_with fail
        go_ret
        exact ⟨rfl, hw⟩
  · obtain rfl : E = false := by
      rw [← hE, beq_eq_false_iff_ne]
      intro e
      apply hq
      rw [← L1.out, ← L2.out, e]
    have hz : ((n : Int) == (m : Int)) = false := by simp; omega
    clear hE
    go_enter Try.func111, Try.ntmps111
    go_wp2_with fail
    go_ret
    exact ⟨rfl, Below.refl _ _⟩
set_option maxRecDepth 100000 in
set_option maxHeartbeats 4000000 in
theorem sameB145 (A : Option Addr) (n c : Nat) (ls : List UInt8) (B : Option Addr) (m d : Nat) (ks : List UInt8) (w : World) (h1 : Tx w A n c ls) (h2 : Tx w B m d ks) (E : Bool) (hE : (ls == ks) = E) :
    Calls Try.prog 145 #[.slice A n c, .slice B m d] w fun e w' => e = .returned (.bool E) ∧ Below w.heap.size w w' := by
  have L1 := Lib.hid h1.len
  have L2 := Lib.hid h2.len
  have hnm : n ≤ maxLen := Nat.le_trans h1.cap h1.max
  unfold maxLen at hnm
  by_cases hq : n = m
  · subst hq
    have HE := Lib.hid hE
    clear hE
    go_enter Try.func145, Try.ntmps145
    go_wp2_with fail
    go_loopw [13] (fun i wr => ∃ k : Nat, k ≤ n ∧ i = .int .i64 (k : Int) ∧ Hid (ls.take k = ks.take k) ∧ Below w.heap.size w wr) (fun i _ => n - (intOf i).toNat)
    case atStart => exact ⟨0, by omega, by go_num, rfl, Below.refl _ _⟩
    case round =>
      obtain ⟨k, hk, rfl, htk, hw⟩ := hrel
      by_cases hlt : k < n
      · have hltz : (k : Int) < (n : Int) := by omega
        obtain ⟨pa, rfl⟩ : ∃ pa, A = some pa := by
          obtain ⟨pa, h, _⟩ := (h1.rd).at_ (k := 0) (by rw [bvs_length, L1.out]; omega)
          exact ⟨pa, h⟩
        obtain ⟨pb, rfl⟩ : ∃ pb, B = some pb := by
          obtain ⟨pb, h, _⟩ := (h2.rd).at_ (k := 0) (by rw [bvs_length, L2.out]; omega)
          exact ⟨pb, h⟩
        have x1 := (h1.below hw).rd
        have y1 := (h2.below hw).rd
        have e1 := Lib.hid (byte_get ls k (by rw [L1.out]; exact hlt))
        have e2 := Lib.hid (byte_get ks k (by rw [L2.out]; exact hlt))
        by_cases hxy : ls.getD k 0 = ks.getD k 0
        · have HT := Lib.hid (take_succ_eq 0 ls ks k (by rw [L1.out]; exact hlt) (by rw [L2.out]; exact hlt) htk.out hxy)
          have hb : Hid ((ls.getD k 0 == ks.getD k 0) = !false) := Lib.hid (by rw [hxy]; simp)
          clear hxy
          generalize ls.getD k 0 = x at *
          generalize ks.getD k 0 = y at *
          go_upto_region 6 with fail
          refine rg_begin (Below wr.heap.size wr) [] [] [0, 1, 2, 3, 4, 5, 6, 7, 8] 0 mixed (by kernel_rfl) (fun _ _ _ _ e hh => ⟨e.symm.trans hh.1, hh.2⟩) ?_
          simp only [pick, List.map_cons, List.map_nil, List.getD_cons_zero, List.getD_cons_succ]
          have hS : (Below wr.heap.size wr) _ := (Below.refl _ _).drew
          refine rg_take (v := ?v7_0) rfl rfl hS ?y7_0 ?_
          case y7_0 => intro W hW; (try subst hW); go_simp; try with_reducible rfl
          simp only [Act.put, List.setIfInBounds_toArray, List.set_cons_zero, List.set_cons_succ]
          refine rg_take (v := ?v7_1) rfl rfl hS ?y7_1 ?_
          case y7_1 => intro W hW; (try subst hW); go_simp; try with_reducible rfl
          simp only [Act.put, List.setIfInBounds_toArray, List.set_cons_zero, List.set_cons_succ]
          refine rg_take rfl rfl hS (fun W hW => exec_sia Try.underlying24 sz5 _ _ rfl pa n c k _ rfl rfl hlt) ?_
          simp only [Act.put, List.setIfInBounds_toArray, List.set_cons_zero, List.set_cons_succ]
          refine rg_take rfl rfl hS (fun W hW => exec_bload_rd w5 _ rfl pa k ls x rfl (x1.below hW) e1.out) ?_
          simp only [Act.put, List.setIfInBounds_toArray, List.set_cons_zero, List.set_cons_succ]
          refine rg_take (v := ?v7_4) rfl rfl hS ?y7_4 ?_
          case y7_4 => intro W hW; (try subst hW); go_simp; try with_reducible rfl
          simp only [Act.put, List.setIfInBounds_toArray, List.set_cons_zero, List.set_cons_succ]
          refine rg_take (v := ?v7_5) rfl rfl hS ?y7_5 ?_
          case y7_5 => intro W hW; (try subst hW); go_simp; try with_reducible rfl
          simp only [Act.put, List.setIfInBounds_toArray, List.set_cons_zero, List.set_cons_succ]
          refine rg_take rfl rfl hS (fun W hW => exec_sia Try.underlying24 sz5 _ _ rfl pb n d k _ rfl rfl hlt) ?_
          simp only [Act.put, List.setIfInBounds_toArray, List.set_cons_zero, List.set_cons_succ]
          refine rg_take rfl rfl hS (fun W hW => exec_bload_rd w5 _ rfl pb k ks y rfl (y1.below hW) e2.out) ?_
          simp only [Act.put, List.setIfInBounds_toArray, List.set_cons_zero, List.set_cons_succ]
          refine rg_take rfl rfl hS (fun W hW => exec_bneq _ _ rfl x y rfl rfl hb.out) ?_
          simp only [Act.put, List.setIfInBounds_toArray, List.set_cons_zero, List.set_cons_succ]
          refine rg_done (by kernel_rfl) ?_
          go_wp2_with fail
          go_roundw
          case rel => exact ⟨k + 1, by omega, by go_num, HT, hw.drew⟩
          case measure => simp only [intOf]; omega
        · obtain rfl : E = false := by rw [← HE.out]; exact list_ne8 ls ks k hxy
          have hb : Hid ((ls.getD k 0 == ks.getD k 0) = !true) := Lib.hid (by simp only [Bool.not_true, beq_eq_false_iff_ne]; exact hxy)
          clear hxy
          generalize ls.getD k 0 = x at *
          generalize ks.getD k 0 = y at *
          go_upto_region 6 with fail
          refine rg_begin (Below wr.heap.size wr) [] [] [0, 1, 2, 3, 4, 5, 6, 7, 8] 0 mixed (by kernel_rfl) (fun _ _ _ _ e hh => ⟨e.symm.trans hh.1, hh.2⟩) ?_
          simp only [pick, List.map_cons, List.map_nil, List.getD_cons_zero, List.getD_cons_succ]
          have hS : (Below wr.heap.size wr) _ := (Below.refl _ _).drew
          refine rg_take (v := ?v8_0) rfl rfl hS ?y8_0 ?_
          case y8_0 => intro W hW; (try subst hW); go_simp; try with_reducible rfl
          simp only [Act.put, List.setIfInBounds_toArray, List.set_cons_zero, List.set_cons_succ]
          refine rg_take (v := ?v8_1) rfl rfl hS ?y8_1 ?_
          case y8_1 => intro W hW; (try subst hW); go_simp; try with_reducible rfl
          simp only [Act.put, List.setIfInBounds_toArray, List.set_cons_zero, List.set_cons_succ]
          refine rg_take rfl rfl hS (fun W hW => exec_sia Try.underlying24 sz5 _ _ rfl pa n c k _ rfl rfl hlt) ?_
          simp only [Act.put, List.setIfInBounds_toArray, List.set_cons_zero, List.set_cons_succ]
          refine rg_take rfl rfl hS (fun W hW => exec_bload_rd w5 _ rfl pa k ls x rfl (x1.below hW) e1.out) ?_
          simp only [Act.put, List.setIfInBounds_toArray, List.set_cons_zero, List.set_cons_succ]
          refine rg_take (v := ?v8_4) rfl rfl hS ?y8_4 ?_
          case y8_4 => intro W hW; (try subst hW); go_simp; try with_reducible rfl
          simp only [Act.put, List.setIfInBounds_toArray, List.set_cons_zero, List.set_cons_succ]
          refine rg_take (v := ?v8_5) rfl rfl hS ?y8_5 ?_
          case y8_5 => intro W hW; (try subst hW); go_simp; try with_reducible rfl
          simp only [Act.put, List.setIfInBounds_toArray, List.set_cons_zero, List.set_cons_succ]
          refine rg_take rfl rfl hS (fun W hW => exec_sia Try.underlying24 sz5 _ _ rfl pb n d k _ rfl rfl hlt) ?_
          simp only [Act.put, List.setIfInBounds_toArray, List.set_cons_zero, List.set_cons_succ]
          refine rg_take rfl rfl hS (fun W hW => exec_bload_rd w5 _ rfl pb k ks y rfl (y1.below hW) e2.out) ?_
          simp only [Act.put, List.setIfInBounds_toArray, List.set_cons_zero, List.set_cons_succ]
          refine rg_take rfl rfl hS (fun W hW => exec_bneq _ _ rfl x y rfl rfl hb.out) ?_
          simp only [Act.put, List.setIfInBounds_toArray, List.set_cons_zero, List.set_cons_succ]
          refine rg_done (by kernel_rfl) ?_
          go_wp2_with fail
          go_ret
          exact ⟨rfl, hw.drew⟩
      · obtain rfl : k = n := by omega
        have e3 : ls = ks := by
          have h := htk.out
          rwa [List.take_of_length_le (by rw [L1.out]; exact Nat.le_refl _), List.take_of_length_le (by rw [L2.out]; exact Nat.le_refl _)] at h
        obtain rfl : E = true := by rw [← HE.out, e3]; simp
        clear e3
        go_wp2_with fail
        go_ret
        exact ⟨rfl, hw⟩
  · obtain rfl : E = false := by
      rw [← hE, beq_eq_false_iff_ne]
      intro e
      apply hq
      rw [← L1.out, ← L2.out, e]
    have hz : ((n : Int) == (m : Int)) = false := by simp; omega
    clear hE
    go_enter Try.func145, Try.ntmps145
    go_wp2_with fail
    go_ret
    exact ⟨rfl, Below.refl _ _⟩
theorem et25 : ET Try.prog 25 (.agg (bvs (zb 32)).toArray) 32 32 := ⟨by kernel_rfl, rfl, by omega⟩
theorem own_hl {w : World} {base n : Nat} {v : Value} {ls : List (List UInt8)} (h : w.ownsRow base 25 32 v n (bvs ls.flatten)) (hl : ls.length = n) (he : ∀ l ∈ ls, l.length = 32) : ∃ A c, v = .slice A n c ∧ Hl w A n c ls := by
  obtain ⟨A, c, rfl, h1, h2, h3⟩ := ownsRow_rd h
  exact ⟨A, c, rfl, hl, h1, h2, h3, he⟩
set_option maxRecDepth 100000 in
set_option maxHeartbeats 1000000 in
theorem copyH_any (A : Option Addr) (n c : Nat) (ls : List (List UInt8)) (w : World) (h : Hl w A n c ls) (hn : n ≤ 4398046511104) :
    Calls Try.prog 101 #[.slice A n c] w fun e w' => ∃ v, e = .returned v ∧ w'.ownsRow w.heap.size 25 32 v n (bvs ls.flatten) ∧ Below w.heap.size w w' := by
  have hf : ls.flatten.length = n * 32 := by rw [flat32_len ls h.each, h.len]; omega
  have hown : (w.alloc (.cells #[] 25)).ownsRow w.heap.size 25 32 (.slice (some ⟨w.heap.size, 0, none⟩) 0 0) 0 [] := ownsRow_of_blk w.heap.size 32 0 (by simpa using Blk.new w 25 []) (Nat.le_refl _) rfl (by omega)
  have hw0 : Below w.heap.size w (w.alloc (.cells #[] 25)) := (Below.refl _ _).alloc (Nat.le_refl _) _
  have hrd := h.rd.alloc (.cells #[] 25)
  go_enter Try.func101, Try.ntmps101
  go_wp2_with ((with_reducible refine at_dst 5 ?_); refine wpList_append_row Try.underlying132 et25 rfl (.tmp 3) (.tmp 4) rfl w.heap.size _ 0 [] rfl hown A n c (bvs ls.flatten) rfl (by rw [bvs_length, hf]) hrd (bvs_one _) (by unfold maxLen; omega) (by omega) hw0.size ?_; intro v1 w1 ho1 hg1)
  go_ret
  refine ⟨v1, rfl, by simpa using ho1, hw0.grown hg1 hw0.size (fun g hg => ?_)⟩
  have e : some w.heap.size = some g := hg
  exact Nat.le_of_eq (Option.some.inj e)
end Go.Proofs.Ytehbahobkgoapaa
namespace Go.Proofs.Ytehbahobkgoapaa
open Go Go.RowKit
section
variable {P : Program} {ops : Array Oper} {rest : List Oper} {o : Oper} {a : Act} {w : World} {Q : Exit → Act → World → Prop}
theorem wpList_plain_w (hw : Region.wanted o (yielded ops a.tmps) = true) (h : ∀ K : Act → World → Prop, (∀ a w, wpList P ops Q rest a w → K a w) → o.wp P a w K Q) : wpList P ops Q (o :: rest) a w :=
  wpList_step fun K hK => by rw [if_pos hw]; exact h K hK
theorem wpList_skip_w (hw : Region.wanted o (yielded ops a.tmps) = false) (h : wpList P ops Q rest (a.put o.dst undef) w) : wpList P ops Q (o :: rest) a w := by
  unfold wpList
  rw [if_neg (by rw [hw]; decide)]
  exact h
end
end Go.Proofs.Ytehbahobkgoapaa
namespace Go.Proofs.Ytehbahobkgoapaa
open Go Go.RowKit
set_option linter.unusedSimpArgs false
set_option linter.unusedVariables false
def txtN (n : Nat) : Nat := if n = 0 then 1 else 65
def txtH (ls : List (List UInt8)) : List UInt8 := if ls.length = 0 then [4] else 5 :: (foldH firstH (ls.take (ls.length - 1)) ++ ls.getD (ls.length - 1) [])
theorem txtH_nil (ls : List (List UInt8)) (h : ls.length = 0) : txtH ls = [4] := by unfold txtH; rw [if_pos h]
theorem txtH_cons (ls : List (List UInt8)) (n : Nat) (hl : ls.length = n) (h : 0 < n) : txtH ls = 5 :: (foldH firstH (ls.take (n - 1)) ++ ls.getD (n - 1) []) := by unfold txtH; rw [if_neg (by omega), hl]
theorem st132 : ST Try.prog 132 25 32 := ⟨Try.underlying132, by kernel_rfl⟩
/-- What it points at is new. -/
def Frs (w : World) (A : Option Addr) : Prop := ∀ ad, A = some ad → w.heap.size ≤ ad.block
theorem Frs.mono {w w' : World} {A : Option Addr} (h : Frs w' A) (hs : w.heap.size ≤ w'.heap.size) : Frs w A := fun ad e => Nat.le_trans hs (h ad e)
theorem own_fresh {w u : World} {E n c : Nat} {A : Option Addr} {l : List UInt8} (h : OwnB w u.heap.size E (.slice A n c) l) : Frs u A := by
  intro ad e
  rcases h with ⟨h, _⟩ | ⟨g, sp, h, hb, _⟩
  · injection h with h _ _
    rw [e] at h
    cases h
  · injection h with h _ _
    rw [e] at h
    cases h
    exact hb
theorem rtx_is (t : UInt8) (z : Int) (hz : (t.toNat : Int) = z) (A : Option Addr) (n c : Nat) (vs : List Value) (ls : List (List UInt8)) (L : Nat) (w : World) (hl : ls.length = n) (hr : Rd w A vs) (ha : AllRd w vs ls) (hn : ls.length ≤ 1099511627776) (hb : ls.flatten.length + 1 = L) (hL : L ≤ 140737488355328) :
    Calls Try.prog 30 #[.int .u8 z, .slice A n c] w fun e w' => ∃ A' c', e = .returned (.slice A' L c') ∧ Tx w' A' L c' (t :: ls.flatten) ∧ Frs w A' ∧ Below w.heap.size w w' := by
  subst hz
  refine (rtext t A n c vs ls w hl hr ha hn (by omega)).mono ?_
  rintro e w' ⟨v, rfl, ho, hw⟩
  obtain ⟨A', c', rfl, ht⟩ := own_tx ho (n := L) (by simpa using hb)
  exact ⟨A', c', rfl, ht, own_fresh ho, hw⟩
set_option maxRecDepth 100000 in
set_option maxHeartbeats 4000000 in
theorem step_txt (A : Option Addr) (n c : Nat) (ls : List (List UInt8)) (w : World) (h : Hl w A n c ls) :
    Calls Try.prog 147 #[.slice A n c] w fun e w' => ∃ A' c', e = .returned (.slice A' (txtN n) c') ∧ Tx w' A' (txtN n) c' (txtH ls) ∧ Frs w A' ∧ Below w.heap.size w w' := by
  have hnm : n ≤ maxLen := Nat.le_trans h.cap h.max
  unfold maxLen at hnm
  by_cases h0 : n = 0
  · have e1 : txtN n = 1 := by unfold txtN; rw [if_pos h0]
    have e2 := txtH_nil ls (by rw [h.len]; exact h0)
    rw [e1, e2]
    clear e1 e2
    have C := fun u => Lib.hid (rtx_is 4 4 rfl none 0 0 [] [] 1 u rfl (Rd.nil _ _) (AllRd.nil _) (by simp) rfl (by omega))
    subst h0
    go_enter Try.func147, Try.ntmps147
    go_wp2_with (first
      | (go_at_call 30; with_reducible refine (C _).out.mono ?_; rintro e w1 ⟨A1, c1, rfl, t1, f1, hw1⟩))
    go_ret
    exact ⟨A1, c1, rfl, t1, f1, hw1⟩
  · have h1 : 0 < n := by omega
    have e1 : txtN n = 65 := by unfold txtN; rw [if_neg h0]
    have e2 := txtH_cons ls n h.len h1
    rw [e1, e2]
    clear e1 e2
    have hnz : ((n : Int) == 0) = false := by simp; omega
    obtain ⟨pa, rfl, hrd, hl32⟩ := h.at (n - 1) (by omega)
    have C1 := fun u => Lib.hid (crfirst_any u)
    have C2 := fun (u : World) (hu : Below w.heap.size w u) => Lib.hid (rfold_any firstH (some pa) (n - 1) c (ls.take (n - 1)) u firstH_length ((h.to (n - 1) (by omega)).below hu))
    have HDL : Hid ((foldH firstH (ls.take (n - 1))).length = 32) := Lib.hid (foldH_length _ _ firstH_length)
    have HRL := Lib.hid hl32
    have hcap := h.cap
    clear hl32 h0
    rw [show shaL [4] = firstH from rfl] at C1
    generalize firstH = FH at *
    generalize foldH FH (ls.take (n - 1)) = HD at *
    generalize ls.getD (n - 1) [] = RT at *
    unfold arr8 at *
    go_enter Try.func147, Try.ntmps147
    go_upto_region 3 with fail
    refine rg_begin (Below w.heap.size w) [8] [0, 6, 7, 8] [1, 2, 3, 4, 5] 4 mixed (by kernel_rfl) (fun _ _ _ _ e hh => ⟨e.symm.trans hh.1, hh.2⟩) ?_
    simp only [pick, List.map_cons, List.map_nil, List.getD_cons_zero, List.getD_cons_succ]
    have hS : (Below w.heap.size w) _ := (Below.refl _ _).drew
    generalize w.drew = wc at *
    refine rg_take (v := ?v1_1) rfl rfl hS ?y1_1 ?_
    case y1_1 => intro W hW; (try subst hW); go_simp; try with_reducible rfl
    simp only [Act.put, List.setIfInBounds_toArray, List.set_cons_zero, List.set_cons_succ]
    refine rg_take (v := ?v1_2) rfl rfl hS ?y1_2 ?_
    case y1_2 => intro W hW; (try subst hW); go_simp; try with_reducible rfl
    simp only [Act.put, List.setIfInBounds_toArray, List.set_cons_zero, List.set_cons_succ]
    refine rg_take rfl rfl hS (fun W hW => exec_len132 _ rfl (some pa) n c rfl) ?_
    simp only [Act.put, List.setIfInBounds_toArray, List.set_cons_zero, List.set_cons_succ]
    refine rg_take rfl rfl hS (fun W hW => exec_isub _ _ rfl _ _ (((n - 1 : Nat) : Int)) rfl rfl (by omega) (by omega)) ?_
    simp only [Act.put, List.setIfInBounds_toArray, List.set_cons_zero, List.set_cons_succ]
    refine rg_take rfl rfl hS (fun W hW => exec_slice_to st132 _ _ rfl (some pa) n c (n - 1) .i64 rfl rfl (by omega)) ?_
    simp only [Act.put, List.setIfInBounds_toArray, List.set_cons_zero, List.set_cons_succ]
    refine rg_fork [0, 7] (by kernel_rfl) ?_
    simp only [pick, List.map_cons, List.map_nil, List.getD_cons_zero, List.getD_cons_succ]
    refine ⟨⟨rfl, ?_⟩, ⟨rfl, ?_⟩, trivial⟩
    · intro K hK; go_simp
      with_reducible refine (C1 _).out.mono ?_
      rintro e wc ⟨rfl, hn⟩
      have hS := hS.trans (hn.mono hS.size)
      (try have xz := xz.below hn xz.lt)
      refine hK _ _ (fun _ => hS) ?_; clear hK hn
      refine rg_fork [6, 7] (by kernel_rfl) ?_
      simp only [pick, List.map_cons, List.map_nil, List.getD_cons_zero, List.getD_cons_succ]
      refine ⟨⟨rfl, ?_⟩, ⟨rfl, ?_⟩, trivial⟩
      · intro K hK; go_simp
        with_reducible refine (C2 _ hS).out.mono ?_
        rintro e wc ⟨rfl, hn⟩
        have hS := hS.trans (hn.mono hS.size)
        (try have xz := xz.below hn xz.lt)
        refine hK _ _ (fun _ => hS) ?_; clear hK hn
        refine rg_more [7, 8] 0 (by kernel_rfl) ?_
        simp only [pick, List.map_cons, List.map_nil, List.getD_cons_zero, List.getD_cons_succ]
        refine rg_one rfl rfl ?_; intro K hK; go_simp
        have hgz0 : w.heap.size ≤ wc.heap.size := hS.size
        have hS' : Below w.heap.size w (wc.alloc (.cells (bvs (zb 32)).toArray 25)) := hS.alloc hS.size _
        have xz' : Blk (wc.alloc (.cells (bvs (zb 32)).toArray 25)) wc.heap.size 25 (bvs (zb 32)) := Blk.new _ _ _
        refine hK _ _ (fun _ => hS') ?_; clear hK
        generalize hWn : World.alloc wc _ = wn
        have hS : Below w.heap.size w wn := by rw [← hWn]; exact hS'
        have xz : Blk wn wc.heap.size 25 (bvs (zb 32)) := by rw [← hWn]; exact xz'
        clear hWn hS' xz'
        generalize wc.heap.size = gz at *
        rename World => wc
        refine rg_one rfl rfl ?_; intro K hK
        refine wp_store_at at25w.i (.tmp 3) (.tmp 15) rfl gz 0 25 (bvs (zb 32)) (bvs HD) rfl rfl xz (by rw [bvs_length]; exact HDL.out) (by rw [bvs_length, zb_length]; omega) (bvs_one _) ?_
        intro wz hbz hgz hsz
        clear hsz
        refine hK _ _ (fun h => by cases h) ?_; clear hK
        refine rg_done (by kernel_rfl) ?_
        rw [splice_all _ _ (by rw [bvs_length, bvs_length, zb_length]; exact HDL.out.symm)] at hbz
        have hz1 : Below w.heap.size w wz := hS.grown hgz hS.size (by intro k hk; cases hk; exact hgz0)
        have z25 : Hid (Blk (wz.alloc (.cells (bvs (zb 32)).toArray 25)) wz.heap.size 25 (bvs (zb 32))) := Lib.hid (Blk.new _ _ _)
        have hb1 := hbz.alloc (.cells (bvs (zb 32)).toArray 25)
        have hz2 : Below w.heap.size w (wz.alloc (.cells (bvs (zb 32)).toArray 25)) := hz1.alloc hz1.size _
        have hlt := hbz.lt
        go_upto_region 4 with fail
        refine wp_region_lit ?_
        refine wpList_yield rfl _ (exec_move _ rfl) ?_
        simp only [Act.put, Act.eval, Array.getD_eq_getD_getElem?, List.getElem?_toArray, List.getElem?_cons_succ, List.getElem?_cons_zero, Option.getD_some, List.setIfInBounds_toArray, List.set_cons_zero, List.set_cons_succ]
        refine wpList_yield rfl _ (exec_move _ rfl) ?_
        simp only [Act.put, Act.eval, Array.getD_eq_getD_getElem?, List.getElem?_toArray, List.getElem?_cons_succ, List.getElem?_cons_zero, Option.getD_some, List.setIfInBounds_toArray, List.set_cons_zero, List.set_cons_succ]
        refine wpList_yield rfl _ (exec_len132 _ rfl (some pa) n c rfl) ?_
        simp only [Act.put, List.setIfInBounds_toArray, List.set_cons_zero, List.set_cons_succ]
        refine wpList_yield rfl _ (exec_isub _ _ rfl _ _ (((n - 1 : Nat) : Int)) rfl rfl (by omega) (by omega)) ?_
        simp only [Act.put, List.setIfInBounds_toArray, List.set_cons_zero, List.set_cons_succ]
        refine wpList_yield rfl _ (exec_siaz Try.underlying132 sz25 _ _ rfl pa n c (n - 1) _ rfl rfl (by omega)) ?_
        simp only [Act.put, List.setIfInBounds_toArray, List.set_cons_zero, List.set_cons_succ]
        refine wpList_yield rfl _ (exec_load_rd at25w _ rfl _ (bvs RT) rfl (hrd.below hz1) (by omega) (by rw [bvs_length]; exact HRL.out)) ?_
        simp only [Act.put, List.setIfInBounds_toArray, List.set_cons_zero, List.set_cons_succ]
        refine wpList_plain rfl fun K hK => ?_; go_simp
        refine hK _ _ ?_; clear hK
        (try simp only [Act.put, List.setIfInBounds_toArray, List.set_cons_zero, List.set_cons_succ])
        refine wpList_store_at at25w.i rfl (.tmp 4) (.tmp 21) rfl wz.heap.size 0 25 (bvs (zb 32)) (bvs RT) rfl rfl z25.out (by rw [bvs_length]; exact HRL.out) (by rw [bvs_length, zb_length]; omega) (bvs_one _) ?_
        intro w5 hb5 hg5 hs5
        (try simp only [Act.put, List.setIfInBounds_toArray, List.set_cons_zero, List.set_cons_succ])
        refine wpList_nil ?_
        rw [splice_all _ _ (by rw [bvs_length, bvs_length, zb_length]; exact HRL.out.symm)] at hb5
        have hb6 := hb1.grown hg5 (by simp; omega)
        have hz5 : Below w.heap.size w w5 := hz2.grown hg5 hz2.size (by intro k hk; cases hk; exact hz1.size)
        clear hb1 hz2 z25 hg5 hs5 hgz
        have T2 := Lib.hid (two_slices w5.drew HD RT 25 25 gz wz.heap.size hb6.drew hb5.drew HDL.out HRL.out)
        generalize wz.heap.size = gy at *
        go_upto_region 5 with fail
        refine rg_begin (Any) [] [2, 3] [0, 1, 2, 3, 4] 0 mixed (by kernel_rfl) (fun _ _ _ _ e hh => ⟨e.symm.trans hh.1, hh.2⟩) ?_
        simp only [pick, List.map_cons, List.map_nil, List.getD_cons_zero, List.getD_cons_succ]
        have hS9 : (Any) _ := any_at w5.drew
        refine rg_take rfl rfl hS9 (fun W hW => exec_arr_all ia25 _ rfl gz 0 rfl) ?_
        simp only [Act.put, List.setIfInBounds_toArray, List.set_cons_zero, List.set_cons_succ]
        refine rg_take rfl rfl hS9 (fun W hW => exec_arr_all ia25 _ rfl gy 0 rfl) ?_
        simp only [Act.put, List.setIfInBounds_toArray, List.set_cons_zero, List.set_cons_succ]
        refine rg_one rfl rfl ?_; intro K hK; go_simp
        have hA := any_at (w5.drew.alloc (.cells #[.slice (some ⟨gz, 0, none⟩) 32 32, .slice (some ⟨gy, 0, none⟩) 32 32] 24))
        refine hK _ _ (fun _ => hA) ?_; clear hK
        refine rg_one rfl rfl ?_; intro K hK; go_simp
        refine (rtx_is 5 5 rfl _ 2 2 _ [HD, RT] 65 _ rfl T2.out.1 T2.out.2.1 (by simp) (by simp [HDL.out, HRL.out]) (by omega)).mono ?_
        rintro e w6 ⟨A6, c6, rfl, t6, f6, hw6⟩
        have hA2 := any_at w6
        refine hK _ _ (fun _ => hA2) ?_; clear hK
        refine rg_take (v := ?v11_4) rfl rfl hA2 ?y11_4 ?_
        case y11_4 => intro W hW; (try subst hW); go_simp; try with_reducible rfl
        simp only [Act.put, List.setIfInBounds_toArray, List.set_cons_zero, List.set_cons_succ]
        refine rg_done (by kernel_rfl) ?_
        go_wp2_with fail
        go_ret
        have e5 : ((5 : UInt8) :: [HD, RT].flatten) = 5 :: (HD ++ RT) := by simp
        rw [e5] at t6
        have hz6 : Below w.heap.size w (w5.drew.alloc (.cells #[.slice (some ⟨gz, 0, none⟩) 32 32, .slice (some ⟨gy, 0, none⟩) 32 32] 24)) := hz5.drew.alloc hz5.size _
        exact ⟨A6, c6, rfl, t6, f6.mono hz6.size, hz6.trans (hw6.mono hz6.size)⟩
      · intro K hK; go_simp
        have hgz0 : w.heap.size ≤ wc.heap.size := hS.size
        have hS' : Below w.heap.size w (wc.alloc (.cells (bvs (zb 32)).toArray 25)) := hS.alloc hS.size _
        have xz' : Blk (wc.alloc (.cells (bvs (zb 32)).toArray 25)) wc.heap.size 25 (bvs (zb 32)) := Blk.new _ _ _
        refine hK _ _ (fun _ => hS') ?_; clear hK
        generalize hWn : World.alloc wc _ = wn
        have hS : Below w.heap.size w wn := by rw [← hWn]; exact hS'
        have xz : Blk wn wc.heap.size 25 (bvs (zb 32)) := by rw [← hWn]; exact xz'
        clear hWn hS' xz'
        generalize wc.heap.size = gz at *
        rename World => wc
        refine rg_more [6, 8] 0 (by kernel_rfl) ?_
        simp only [pick, List.map_cons, List.map_nil, List.getD_cons_zero, List.getD_cons_succ]
        refine rg_one rfl rfl ?_; intro K hK; go_simp
        with_reducible refine (C2 _ hS).out.mono ?_
        rintro e wc ⟨rfl, hn⟩
        have hS := hS.trans (hn.mono hS.size)
        (try have xz := xz.below hn xz.lt)
        refine hK _ _ (fun _ => hS) ?_; clear hK hn
        refine rg_one rfl rfl ?_; intro K hK
        refine wp_store_at at25w.i (.tmp 3) (.tmp 15) rfl gz 0 25 (bvs (zb 32)) (bvs HD) rfl rfl xz (by rw [bvs_length]; exact HDL.out) (by rw [bvs_length, zb_length]; omega) (bvs_one _) ?_
        intro wz hbz hgz hsz
        clear hsz
        refine hK _ _ (fun h => by cases h) ?_; clear hK
        refine rg_done (by kernel_rfl) ?_
        rw [splice_all _ _ (by rw [bvs_length, bvs_length, zb_length]; exact HDL.out.symm)] at hbz
        have hz1 : Below w.heap.size w wz := hS.grown hgz hS.size (by intro k hk; cases hk; exact hgz0)
        have z25 : Hid (Blk (wz.alloc (.cells (bvs (zb 32)).toArray 25)) wz.heap.size 25 (bvs (zb 32))) := Lib.hid (Blk.new _ _ _)
        have hb1 := hbz.alloc (.cells (bvs (zb 32)).toArray 25)
        have hz2 : Below w.heap.size w (wz.alloc (.cells (bvs (zb 32)).toArray 25)) := hz1.alloc hz1.size _
        have hlt := hbz.lt
        go_upto_region 4 with fail
        refine wp_region_lit ?_
        refine wpList_yield rfl _ (exec_move _ rfl) ?_
        simp only [Act.put, Act.eval, Array.getD_eq_getD_getElem?, List.getElem?_toArray, List.getElem?_cons_succ, List.getElem?_cons_zero, Option.getD_some, List.setIfInBounds_toArray, List.set_cons_zero, List.set_cons_succ]
        refine wpList_yield rfl _ (exec_move _ rfl) ?_
        simp only [Act.put, Act.eval, Array.getD_eq_getD_getElem?, List.getElem?_toArray, List.getElem?_cons_succ, List.getElem?_cons_zero, Option.getD_some, List.setIfInBounds_toArray, List.set_cons_zero, List.set_cons_succ]
        refine wpList_yield rfl _ (exec_len132 _ rfl (some pa) n c rfl) ?_
        simp only [Act.put, List.setIfInBounds_toArray, List.set_cons_zero, List.set_cons_succ]
        refine wpList_yield rfl _ (exec_isub _ _ rfl _ _ (((n - 1 : Nat) : Int)) rfl rfl (by omega) (by omega)) ?_
        simp only [Act.put, List.setIfInBounds_toArray, List.set_cons_zero, List.set_cons_succ]
        refine wpList_yield rfl _ (exec_siaz Try.underlying132 sz25 _ _ rfl pa n c (n - 1) _ rfl rfl (by omega)) ?_
        simp only [Act.put, List.setIfInBounds_toArray, List.set_cons_zero, List.set_cons_succ]
        refine wpList_yield rfl _ (exec_load_rd at25w _ rfl _ (bvs RT) rfl (hrd.below hz1) (by omega) (by rw [bvs_length]; exact HRL.out)) ?_
        simp only [Act.put, List.setIfInBounds_toArray, List.set_cons_zero, List.set_cons_succ]
        refine wpList_plain rfl fun K hK => ?_; go_simp
        refine hK _ _ ?_; clear hK
        (try simp only [Act.put, List.setIfInBounds_toArray, List.set_cons_zero, List.set_cons_succ])
        refine wpList_store_at at25w.i rfl (.tmp 4) (.tmp 21) rfl wz.heap.size 0 25 (bvs (zb 32)) (bvs RT) rfl rfl z25.out (by rw [bvs_length]; exact HRL.out) (by rw [bvs_length, zb_length]; omega) (bvs_one _) ?_
        intro w5 hb5 hg5 hs5
        (try simp only [Act.put, List.setIfInBounds_toArray, List.set_cons_zero, List.set_cons_succ])
        refine wpList_nil ?_
        rw [splice_all _ _ (by rw [bvs_length, bvs_length, zb_length]; exact HRL.out.symm)] at hb5
        have hb6 := hb1.grown hg5 (by simp; omega)
        have hz5 : Below w.heap.size w w5 := hz2.grown hg5 hz2.size (by intro k hk; cases hk; exact hz1.size)
        clear hb1 hz2 z25 hg5 hs5 hgz
        have T2 := Lib.hid (two_slices w5.drew HD RT 25 25 gz wz.heap.size hb6.drew hb5.drew HDL.out HRL.out)
        generalize wz.heap.size = gy at *
        go_upto_region 5 with fail
        refine rg_begin (Any) [] [2, 3] [0, 1, 2, 3, 4] 0 mixed (by kernel_rfl) (fun _ _ _ _ e hh => ⟨e.symm.trans hh.1, hh.2⟩) ?_
        simp only [pick, List.map_cons, List.map_nil, List.getD_cons_zero, List.getD_cons_succ]
        have hS9 : (Any) _ := any_at w5.drew
        refine rg_take rfl rfl hS9 (fun W hW => exec_arr_all ia25 _ rfl gz 0 rfl) ?_
        simp only [Act.put, List.setIfInBounds_toArray, List.set_cons_zero, List.set_cons_succ]
        refine rg_take rfl rfl hS9 (fun W hW => exec_arr_all ia25 _ rfl gy 0 rfl) ?_
        simp only [Act.put, List.setIfInBounds_toArray, List.set_cons_zero, List.set_cons_succ]
        refine rg_one rfl rfl ?_; intro K hK; go_simp
        have hA := any_at (w5.drew.alloc (.cells #[.slice (some ⟨gz, 0, none⟩) 32 32, .slice (some ⟨gy, 0, none⟩) 32 32] 24))
        refine hK _ _ (fun _ => hA) ?_; clear hK
        refine rg_one rfl rfl ?_; intro K hK; go_simp
        refine (rtx_is 5 5 rfl _ 2 2 _ [HD, RT] 65 _ rfl T2.out.1 T2.out.2.1 (by simp) (by simp [HDL.out, HRL.out]) (by omega)).mono ?_
        rintro e w6 ⟨A6, c6, rfl, t6, f6, hw6⟩
        have hA2 := any_at w6
        refine hK _ _ (fun _ => hA2) ?_; clear hK
        refine rg_take (v := ?v12_4) rfl rfl hA2 ?y12_4 ?_
        case y12_4 => intro W hW; (try subst hW); go_simp; try with_reducible rfl
        simp only [Act.put, List.setIfInBounds_toArray, List.set_cons_zero, List.set_cons_succ]
        refine rg_done (by kernel_rfl) ?_
        go_wp2_with fail
        go_ret
        have e5 : ((5 : UInt8) :: [HD, RT].flatten) = 5 :: (HD ++ RT) := by simp
        rw [e5] at t6
        have hz6 : Below w.heap.size w (w5.drew.alloc (.cells #[.slice (some ⟨gz, 0, none⟩) 32 32, .slice (some ⟨gy, 0, none⟩) 32 32] 24)) := hz5.drew.alloc hz5.size _
        exact ⟨A6, c6, rfl, t6, f6.mono hz6.size, hz6.trans (hw6.mono hz6.size)⟩
    · intro K hK; go_simp
      have hgz0 : w.heap.size ≤ wc.heap.size := hS.size
      have hS' : Below w.heap.size w (wc.alloc (.cells (bvs (zb 32)).toArray 25)) := hS.alloc hS.size _
      have xz' : Blk (wc.alloc (.cells (bvs (zb 32)).toArray 25)) wc.heap.size 25 (bvs (zb 32)) := Blk.new _ _ _
      refine hK _ _ (fun _ => hS') ?_; clear hK
      generalize hWn : World.alloc wc _ = wn
      have hS : Below w.heap.size w wn := by rw [← hWn]; exact hS'
      have xz : Blk wn wc.heap.size 25 (bvs (zb 32)) := by rw [← hWn]; exact xz'
      clear hWn hS' xz'
      generalize wc.heap.size = gz at *
      rename World => wc
      refine rg_more [0, 6, 8] 0 (by kernel_rfl) ?_
      simp only [pick, List.map_cons, List.map_nil, List.getD_cons_zero, List.getD_cons_succ]
      refine rg_one rfl rfl ?_; intro K hK; go_simp
      with_reducible refine (C1 _).out.mono ?_
      rintro e wc ⟨rfl, hn⟩
      have hS := hS.trans (hn.mono hS.size)
      (try have xz := xz.below hn xz.lt)
      refine hK _ _ (fun _ => hS) ?_; clear hK hn
      refine rg_one rfl rfl ?_; intro K hK; go_simp
      with_reducible refine (C2 _ hS).out.mono ?_
      rintro e wc ⟨rfl, hn⟩
      have hS := hS.trans (hn.mono hS.size)
      (try have xz := xz.below hn xz.lt)
      refine hK _ _ (fun _ => hS) ?_; clear hK hn
      refine rg_one rfl rfl ?_; intro K hK
      refine wp_store_at at25w.i (.tmp 3) (.tmp 15) rfl gz 0 25 (bvs (zb 32)) (bvs HD) rfl rfl xz (by rw [bvs_length]; exact HDL.out) (by rw [bvs_length, zb_length]; omega) (bvs_one _) ?_
      intro wz hbz hgz hsz
      clear hsz
      refine hK _ _ (fun h => by cases h) ?_; clear hK
      refine rg_done (by kernel_rfl) ?_
      rw [splice_all _ _ (by rw [bvs_length, bvs_length, zb_length]; exact HDL.out.symm)] at hbz
      have hz1 : Below w.heap.size w wz := hS.grown hgz hS.size (by intro k hk; cases hk; exact hgz0)
      have z25 : Hid (Blk (wz.alloc (.cells (bvs (zb 32)).toArray 25)) wz.heap.size 25 (bvs (zb 32))) := Lib.hid (Blk.new _ _ _)
      have hb1 := hbz.alloc (.cells (bvs (zb 32)).toArray 25)
      have hz2 : Below w.heap.size w (wz.alloc (.cells (bvs (zb 32)).toArray 25)) := hz1.alloc hz1.size _
      have hlt := hbz.lt
      go_upto_region 4 with fail
      refine wp_region_lit ?_
      refine wpList_yield rfl _ (exec_move _ rfl) ?_
      simp only [Act.put, Act.eval, Array.getD_eq_getD_getElem?, List.getElem?_toArray, List.getElem?_cons_succ, List.getElem?_cons_zero, Option.getD_some, List.setIfInBounds_toArray, List.set_cons_zero, List.set_cons_succ]
      refine wpList_yield rfl _ (exec_move _ rfl) ?_
      simp only [Act.put, Act.eval, Array.getD_eq_getD_getElem?, List.getElem?_toArray, List.getElem?_cons_succ, List.getElem?_cons_zero, Option.getD_some, List.setIfInBounds_toArray, List.set_cons_zero, List.set_cons_succ]
      refine wpList_yield rfl _ (exec_len132 _ rfl (some pa) n c rfl) ?_
      simp only [Act.put, List.setIfInBounds_toArray, List.set_cons_zero, List.set_cons_succ]
      refine wpList_yield rfl _ (exec_isub _ _ rfl _ _ (((n - 1 : Nat) : Int)) rfl rfl (by omega) (by omega)) ?_
      simp only [Act.put, List.setIfInBounds_toArray, List.set_cons_zero, List.set_cons_succ]
      refine wpList_yield rfl _ (exec_siaz Try.underlying132 sz25 _ _ rfl pa n c (n - 1) _ rfl rfl (by omega)) ?_
      simp only [Act.put, List.setIfInBounds_toArray, List.set_cons_zero, List.set_cons_succ]
      refine wpList_yield rfl _ (exec_load_rd at25w _ rfl _ (bvs RT) rfl (hrd.below hz1) (by omega) (by rw [bvs_length]; exact HRL.out)) ?_
      simp only [Act.put, List.setIfInBounds_toArray, List.set_cons_zero, List.set_cons_succ]
      refine wpList_plain rfl fun K hK => ?_; go_simp
      refine hK _ _ ?_; clear hK
      (try simp only [Act.put, List.setIfInBounds_toArray, List.set_cons_zero, List.set_cons_succ])
      refine wpList_store_at at25w.i rfl (.tmp 4) (.tmp 21) rfl wz.heap.size 0 25 (bvs (zb 32)) (bvs RT) rfl rfl z25.out (by rw [bvs_length]; exact HRL.out) (by rw [bvs_length, zb_length]; omega) (bvs_one _) ?_
      intro w5 hb5 hg5 hs5
      (try simp only [Act.put, List.setIfInBounds_toArray, List.set_cons_zero, List.set_cons_succ])
      refine wpList_nil ?_
      rw [splice_all _ _ (by rw [bvs_length, bvs_length, zb_length]; exact HRL.out.symm)] at hb5
      have hb6 := hb1.grown hg5 (by simp; omega)
      have hz5 : Below w.heap.size w w5 := hz2.grown hg5 hz2.size (by intro k hk; cases hk; exact hz1.size)
      clear hb1 hz2 z25 hg5 hs5 hgz
      have T2 := Lib.hid (two_slices w5.drew HD RT 25 25 gz wz.heap.size hb6.drew hb5.drew HDL.out HRL.out)
      generalize wz.heap.size = gy at *
      go_upto_region 5 with fail
      refine rg_begin (Any) [] [2, 3] [0, 1, 2, 3, 4] 0 mixed (by kernel_rfl) (fun _ _ _ _ e hh => ⟨e.symm.trans hh.1, hh.2⟩) ?_
      simp only [pick, List.map_cons, List.map_nil, List.getD_cons_zero, List.getD_cons_succ]
      have hS9 : (Any) _ := any_at w5.drew
      refine rg_take rfl rfl hS9 (fun W hW => exec_arr_all ia25 _ rfl gz 0 rfl) ?_
      simp only [Act.put, List.setIfInBounds_toArray, List.set_cons_zero, List.set_cons_succ]
      refine rg_take rfl rfl hS9 (fun W hW => exec_arr_all ia25 _ rfl gy 0 rfl) ?_
      simp only [Act.put, List.setIfInBounds_toArray, List.set_cons_zero, List.set_cons_succ]
      refine rg_one rfl rfl ?_; intro K hK; go_simp
      have hA := any_at (w5.drew.alloc (.cells #[.slice (some ⟨gz, 0, none⟩) 32 32, .slice (some ⟨gy, 0, none⟩) 32 32] 24))
      refine hK _ _ (fun _ => hA) ?_; clear hK
      refine rg_one rfl rfl ?_; intro K hK; go_simp
      refine (rtx_is 5 5 rfl _ 2 2 _ [HD, RT] 65 _ rfl T2.out.1 T2.out.2.1 (by simp) (by simp [HDL.out, HRL.out]) (by omega)).mono ?_
      rintro e w6 ⟨A6, c6, rfl, t6, f6, hw6⟩
      have hA2 := any_at w6
      refine hK _ _ (fun _ => hA2) ?_; clear hK
      refine rg_take (v := ?v13_4) rfl rfl hA2 ?y13_4 ?_
      case y13_4 => intro W hW; (try subst hW); go_simp; try with_reducible rfl
      simp only [Act.put, List.setIfInBounds_toArray, List.set_cons_zero, List.set_cons_succ]
      refine rg_done (by kernel_rfl) ?_
      go_wp2_with fail
      go_ret
      have e5 : ((5 : UInt8) :: [HD, RT].flatten) = 5 :: (HD ++ RT) := by simp
      rw [e5] at t6
      have hz6 : Below w.heap.size w (w5.drew.alloc (.cells #[.slice (some ⟨gz, 0, none⟩) 32 32, .slice (some ⟨gy, 0, none⟩) 32 32] 24)) := hz5.drew.alloc hz5.size _
      exact ⟨A6, c6, rfl, t6, f6.mono hz6.size, hz6.trans (hw6.mono hz6.size)⟩
theorem ia191 : IA Try.prog 191 65 := ⟨⟨_, Try.underlying191, by kernel_rfl⟩⟩
theorem exec_arr_all_ad {P : Program} {w : World} {a : Act} {o : Oper} {t : TypeId} {n : Nat} (B : IA P t n) (x : Operand) (ho : o.op = .slice t x none none none) (ad : Addr) (hx : a.eval x = .pointer (some ad)) :
    (execOp a.eval o).run P w = .ok (.value (.slice (some ad) n n)) w := by
  obtain ⟨e, hu, hs⟩ := B.u
  have he : P.elem t = e := by simp [Program.elem, hu]
  have hn : P.arrayLen t = n := by simp [Program.arrayLen, hu]
  have hz : (sizeOf e).run P w = .ok 1 w := by
    cases hq : P.info? e with
    | none => simp [hq] at hs
    | some j =>
      simp [hq] at hs
      simp [sizeOf, typeInfo, hq, hs]
  have hr := run_sliceAt_array_all (P := P) w t ad (by rw [he, hn]; exact hu)
  rw [hn, he, hz] at hr
  simp only [Result.andThen_ok, slicedAt, Nat.zero_mul, Nat.sub_zero] at hr
  have ea : ad.add 0 = ad := by unfold Addr.add; rw [if_pos rfl]
  have e0 : (if n = 0 then ad else ad.add 0) = ad := by rw [ea]; simp
  rw [e0] at hr
  unfold execOp
  simp only [ho, hx, Option.map_none, Sem.run_bind, hr, Result.andThen_ok, Sem.run_pure]
theorem put5_0 : (bvs (zb 65)).set 0 (.int .u8 5) = bvs (5 :: zb 64) := rfl
theorem put5_1 (x : List UInt8) (hx : x.length = 32) : splice (5 :: zb 64) 1 (x.take 64) = 5 :: (x ++ zb 32) := by
  have e : x.take 64 = x := List.take_of_length_le (by omega)
  unfold splice
  rw [e, hx]
  rfl
theorem put5_2 (x y : List UInt8) (hx : x.length = 32) (hy : y.length = 32) : splice (5 :: (x ++ zb 32)) 33 (y.take 32) = 5 :: (x ++ y) := by
  have e : y.take 32 = y := List.take_of_length_le (by omega)
  have e2 : x.take 32 = x := List.take_of_length_le (by omega)
  unfold splice
  rw [e, hy, List.take_succ_cons, List.take_append_of_le_length (by omega), e2, List.drop_eq_nil_of_le (by simp [zb_length, hx]), List.append_nil]
  rfl
set_option maxRecDepth 100000 in
set_option maxHeartbeats 4000000 in
theorem chain_txt (A : Option Addr) (n c : Nat) (ls : List (List UInt8)) (w : World) (h : Hl w A n c ls) :
    Calls Try.prog 144 #[.slice A n c] w fun e w' => ∃ A' c', e = .returned (.slice A' (txtN n) c') ∧ Tx w' A' (txtN n) c' (txtH ls) ∧ Frs w A' ∧ Below w.heap.size w w' := by
  have hnm : n ≤ maxLen := Nat.le_trans h.cap h.max
  unfold maxLen at hnm
  by_cases h0 : n = 0
  · have e1 : txtN n = 1 := by unfold txtN; rw [if_pos h0]
    have e2 := txtH_nil ls (by rw [h.len]; exact h0)
    rw [e1, e2]
    clear e1 e2
    subst h0
    go_enter Try.func144, Try.ntmps144
    go_wp2_with fail
    go_ret
    exact ⟨_, 1, rfl, ⟨rfl, Nat.le_refl _, by unfold maxLen; omega, one_new w 4 _ rfl, fun _ _ h => h⟩, fun ad e => by cases e; exact Nat.le_refl _, (Below.refl _ _).alloc (Nat.le_refl _) _⟩
  · have h1 : 0 < n := by omega
    have e1 : txtN n = 65 := by unfold txtN; rw [if_neg h0]
    have e2 := txtH_cons ls n h.len h1
    rw [e1, e2]
    clear e1 e2
    have hnz : ((n : Int) == 0) = false := by simp; omega
    obtain ⟨pa, rfl, hrd, hl32⟩ := h.at (n - 1) (by omega)
    have C1 := fun u => Lib.hid (cfirst_any u)
    have C2 := fun (u : World) (hu : Below w.heap.size w u) => Lib.hid (fold_any firstH (some pa) (n - 1) c (ls.take (n - 1)) u firstH_length ((h.to (n - 1) (by omega)).below hu))
    have HDL : Hid ((foldH firstH (ls.take (n - 1))).length = 32) := Lib.hid (foldH_length _ _ firstH_length)
    have HRL := Lib.hid hl32
    have hcap := h.cap
    clear hl32 h0
    rw [show shaL [4] = firstH from rfl] at C1
    generalize firstH = FH at *
    generalize foldH FH (ls.take (n - 1)) = HD at *
    generalize ls.getD (n - 1) [] = RT at *
    have P1 := Lib.hid (put5_1 HD HDL.out)
    have P2 := Lib.hid (put5_2 HD RT HDL.out HRL.out)
    unfold arr8 at *
    go_enter Try.func144, Try.ntmps144
    go_upto_region 4 with fail
    refine rg_begin (Below w.heap.size w) [7] [0, 5, 6, 7] [1, 2, 3, 4] 4 mixed (by kernel_rfl) (fun _ _ _ _ e hh => ⟨e.symm.trans hh.1, hh.2⟩) ?_
    simp only [pick, List.map_cons, List.map_nil, List.getD_cons_zero, List.getD_cons_succ]
    have hS : (Below w.heap.size w) _ := (Below.refl _ _).drew
    generalize w.drew = wc at *
    refine rg_take (v := ?v6_1) rfl rfl hS ?y6_1 ?_
    case y6_1 => intro W hW; (try subst hW); go_simp; try with_reducible rfl
    simp only [Act.put, List.setIfInBounds_toArray, List.set_cons_zero, List.set_cons_succ]
    refine rg_take (v := ?v6_2) rfl rfl hS ?y6_2 ?_
    case y6_2 => intro W hW; (try subst hW); go_simp; try with_reducible rfl
    simp only [Act.put, List.setIfInBounds_toArray, List.set_cons_zero, List.set_cons_succ]
    refine rg_take rfl rfl hS (fun W hW => exec_isub _ _ rfl _ _ (((n - 1 : Nat) : Int)) rfl rfl (by omega) (by omega)) ?_
    simp only [Act.put, List.setIfInBounds_toArray, List.set_cons_zero, List.set_cons_succ]
    refine rg_take rfl rfl hS (fun W hW => exec_slice_to st132 _ _ rfl (some pa) n c (n - 1) .i64 rfl rfl (by omega)) ?_
    simp only [Act.put, List.setIfInBounds_toArray, List.set_cons_zero, List.set_cons_succ]
    refine rg_fork [0, 6] (by kernel_rfl) ?_
    simp only [pick, List.map_cons, List.map_nil, List.getD_cons_zero, List.getD_cons_succ]
    refine ⟨⟨rfl, ?_⟩, ⟨rfl, ?_⟩, trivial⟩
    · intro K hK; go_simp
      with_reducible refine (C1 _).out.mono ?_
      rintro e wc ⟨rfl, hn⟩
      have hS := hS.trans (hn.mono hS.size)
      (try have xz := xz.below hn xz.lt)
      refine hK _ _ (fun _ => hS) ?_; clear hK hn
      refine rg_fork [5, 6] (by kernel_rfl) ?_
      simp only [pick, List.map_cons, List.map_nil, List.getD_cons_zero, List.getD_cons_succ]
      refine ⟨⟨rfl, ?_⟩, ⟨rfl, ?_⟩, trivial⟩
      · intro K hK; go_simp
        with_reducible refine (C2 _ hS).out.mono ?_
        rintro e wc ⟨rfl, hn⟩
        have hS := hS.trans (hn.mono hS.size)
        (try have xz := xz.below hn xz.lt)
        refine hK _ _ (fun _ => hS) ?_; clear hK hn
        refine rg_more [6, 7] 0 (by kernel_rfl) ?_
        simp only [pick, List.map_cons, List.map_nil, List.getD_cons_zero, List.getD_cons_succ]
        refine rg_one rfl rfl ?_; intro K hK; go_simp
        have hgz0 : w.heap.size ≤ wc.heap.size := hS.size
        have hS' : Below w.heap.size w (wc.alloc (.cells (bvs (zb 32)).toArray 25)) := hS.alloc hS.size _
        have xz' : Blk (wc.alloc (.cells (bvs (zb 32)).toArray 25)) wc.heap.size 25 (bvs (zb 32)) := Blk.new _ _ _
        refine hK _ _ (fun _ => hS') ?_; clear hK
        generalize hWn : World.alloc wc _ = wn
        have hS : Below w.heap.size w wn := by rw [← hWn]; exact hS'
        have xz : Blk wn wc.heap.size 25 (bvs (zb 32)) := by rw [← hWn]; exact xz'
        clear hWn hS' xz'
        generalize wc.heap.size = gz at *
        rename World => wc
        refine rg_one rfl rfl ?_; intro K hK
        refine wp_store_at at25w.i (.tmp 4) (.tmp 16) rfl gz 0 25 (bvs (zb 32)) (bvs HD) rfl rfl xz (by rw [bvs_length]; exact HDL.out) (by rw [bvs_length, zb_length]; omega) (bvs_one _) ?_
        intro wz hbz hgz hsz
        clear hsz
        refine hK _ _ (fun h => by cases h) ?_; clear hK
        refine rg_done (by kernel_rfl) ?_
        rw [splice_all _ _ (by rw [bvs_length, bvs_length, zb_length]; exact HDL.out.symm)] at hbz
        have hz1 : Below w.heap.size w wz := hS.grown hgz hS.size (by intro k hk; cases hk; exact hgz0)
        have q1 : Blk (wz.alloc (.cells (bvs (zb 65)).toArray 191)) wz.heap.size 191 (bvs (zb 65)) := Blk.new _ _ _
        have q2 := hbz.alloc (.cells (bvs (zb 65)).toArray 191)
        have q3 : Below w.heap.size w (wz.alloc (.cells (bvs (zb 65)).toArray 191)) := hz1.alloc hz1.size _
        have hlt := hbz.lt
        have hgw := hz1.size
        go_upto_region 6 with fail
        generalize hWq : World.alloc wz _ = wy
        have r1 : Blk wy wz.heap.size 191 (bvs (zb 65)) := by rw [← hWq]; exact q1
        have r2 : Blk wy gz 25 (bvs HD) := by rw [← hWq]; exact q2
        have r3 : Below w.heap.size w wy := by rw [← hWq]; exact q3
        clear hWq q1 q2 q3
        generalize wz.heap.size = gy at *
        refine wp_region_lit ?_
        refine wpList_yield rfl _ (exec_ia0 ia191 _ _ rfl gy 0 _ rfl rfl (by decide)) ?_
        simp only [Act.put, List.setIfInBounds_toArray, List.set_cons_zero, List.set_cons_succ]
        refine wpList_store_one rfl one5 (.tmp 17) _ rfl gy 0 191 (bvs (zb 65)) (.int .u8 5) rfl rfl rfl r1 (by rw [bvs_length, zb_length]; decide) ?_
        (try simp only [Act.put, List.setIfInBounds_toArray, List.set_cons_zero, List.set_cons_succ])
        refine wpList_nil ?_
        have s1 := r1.set_ 0 (.int .u8 5)
        rw [put5_0] at s1
        have s2 := r2.far (p := ⟨gy, 0, none⟩) (by simp; omega) (.int .u8 5)
        have s3 := r3.setCell (p := ⟨gy, 0, none⟩) hgw (.int .u8 5)
        generalize World.setCell wy _ _ = wx at *
        go_upto_region 7 with fail
        refine rg_begin (Any) [] [2] [0, 1, 2] 0 mixed (by kernel_rfl) (fun _ _ _ _ e hh => ⟨e.symm.trans hh.1, hh.2⟩) ?_
        simp only [pick, List.map_cons, List.map_nil, List.getD_cons_zero, List.getD_cons_succ]
        have hS7 : (Any) _ := any_at wx.drew
        refine rg_take rfl rfl hS7 (fun W hW => exec_arr_from ia191 _ _ rfl gy 0 1 _ rfl rfl (by decide)) ?_
        simp only [Act.put, List.setIfInBounds_toArray, List.set_cons_zero, List.set_cons_succ]
        refine rg_take rfl rfl hS7 (fun W hW => exec_arr_all ia25 _ rfl gz 0 rfl) ?_
        simp only [Act.put, List.setIfInBounds_toArray, List.set_cons_zero, List.set_cons_succ]
        refine rg_one rfl rfl ?_; intro K hK
        refine wp_copy_mid bt (.tmp 18) (.tmp 19) rfl gy (0 + 1) (65 - 1) (65 - 1) ⟨gz, 0, none⟩ 32 32 rfl rfl 191 _ HD s1.drew (Rd.of_blk0 (es := []) (by simpa using s2.drew)) HDL.out (by simp [bvs_length, zb_length]) 32 rfl ?_
        intro wv hv1 hgv hsv
        clear hsv
        have hAv := any_at wv
        refine hK _ _ (fun _ => hAv) ?_; clear hK
        refine rg_done (by kernel_rfl) ?_
        rw [splice_bvs] at hv1
        have hv2 : Blk wv gy 191 (bvs (5 :: (HD ++ zb 32))) := by rw [← P1.out]; exact hv1
        have hv3 : Below w.heap.size w wv := s3.drew.grown hgv s3.size (by intro k hk; cases hk; exact hgw)
        clear hv1 s1 s2 r1 r2 r3 hgv
        go_upto_region 8 with fail
        refine rg_begin (Any) [] [6] [0, 1, 2, 3, 4, 5, 6] 0 mixed (by kernel_rfl) (fun _ _ _ _ e hh => ⟨e.symm.trans hh.1, hh.2⟩) ?_
        simp only [pick, List.map_cons, List.map_nil, List.getD_cons_zero, List.getD_cons_succ]
        have hS8 : (Any) _ := any_at wv.drew
        refine rg_take rfl rfl hS8 (fun W hW => exec_arr_from ia191 _ _ rfl gy 0 33 _ rfl rfl (by decide)) ?_
        simp only [Act.put, List.setIfInBounds_toArray, List.set_cons_zero, List.set_cons_succ]
        refine rg_take (v := ?v15_1) rfl rfl hS8 ?y15_1 ?_
        case y15_1 => intro W hW; (try subst hW); go_simp; try with_reducible rfl
        simp only [Act.put, List.setIfInBounds_toArray, List.set_cons_zero, List.set_cons_succ]
        refine rg_take (v := ?v15_2) rfl rfl hS8 ?y15_2 ?_
        case y15_2 => intro W hW; (try subst hW); go_simp; try with_reducible rfl
        simp only [Act.put, List.setIfInBounds_toArray, List.set_cons_zero, List.set_cons_succ]
        refine rg_take rfl rfl hS8 (fun W hW => exec_isub _ _ rfl _ _ (((n - 1 : Nat) : Int)) rfl rfl (by omega) (by omega)) ?_
        simp only [Act.put, List.setIfInBounds_toArray, List.set_cons_zero, List.set_cons_succ]
        refine rg_take rfl rfl hS8 (fun W hW => exec_siaz Try.underlying132 sz25 _ _ rfl pa n c (n - 1) _ rfl rfl (by omega)) ?_
        simp only [Act.put, List.setIfInBounds_toArray, List.set_cons_zero, List.set_cons_succ]
        refine rg_take rfl rfl hS8 (fun W hW => exec_arr_all_ad ia25 _ rfl (pa.add ((n - 1) * 32)) rfl) ?_
        simp only [Act.put, List.setIfInBounds_toArray, List.set_cons_zero, List.set_cons_succ]
        refine rg_one rfl rfl ?_; intro K hK
        refine wp_copy_mid bt (.tmp 21) (.tmp 26) rfl gy (0 + 33) (65 - 33) (65 - 33) (pa.add ((n - 1) * 32)) 32 32 rfl rfl 191 _ RT hv2.drew ((hrd.below hv3).drew) HRL.out (by simp [bvs_length, zb_length, HDL.out]) 32 rfl ?_
        intro wu hu1 hgu hsu
        clear hsu
        have hAu := any_at wu
        refine hK _ _ (fun _ => hAu) ?_; clear hK
        refine rg_done (by kernel_rfl) ?_
        rw [splice_bvs] at hu1
        have hu2 : Blk wu gy 191 (bvs (5 :: (HD ++ RT))) := by rw [← P2.out]; exact hu1
        have hu3 : Below w.heap.size w wu := hv3.drew.grown hgu hv3.size (by intro k hk; cases hk; exact hgw)
        go_upto_region 9 with fail
        refine wp_region_lit ?_
        refine wpList_yield rfl _ (exec_arr_all ia191 _ rfl gy 0 rfl) ?_
        simp only [Act.put, List.setIfInBounds_toArray, List.set_cons_zero, List.set_cons_succ]
        refine wpList_yield rfl _ (exec_assign _ rfl) ?_
        simp only [Act.put, Act.eval, Array.getD_eq_getD_getElem?, List.getElem?_toArray, List.getElem?_cons_succ, List.getElem?_cons_zero, Option.getD_some, List.setIfInBounds_toArray, List.set_cons_zero, List.set_cons_succ]
        refine wpList_nil ?_
        go_wp2_with fail
        go_ret
        exact ⟨_, 65, rfl, ⟨by simp [HDL.out, HRL.out], Nat.le_refl _, by unfold maxLen; omega, Rd.of_blk0 (es := []) (by simpa using hu2), fun _ _ h => h⟩, fun ad e => by cases e; exact hgw, hu3⟩
      · intro K hK; go_simp
        have hgz0 : w.heap.size ≤ wc.heap.size := hS.size
        have hS' : Below w.heap.size w (wc.alloc (.cells (bvs (zb 32)).toArray 25)) := hS.alloc hS.size _
        have xz' : Blk (wc.alloc (.cells (bvs (zb 32)).toArray 25)) wc.heap.size 25 (bvs (zb 32)) := Blk.new _ _ _
        refine hK _ _ (fun _ => hS') ?_; clear hK
        generalize hWn : World.alloc wc _ = wn
        have hS : Below w.heap.size w wn := by rw [← hWn]; exact hS'
        have xz : Blk wn wc.heap.size 25 (bvs (zb 32)) := by rw [← hWn]; exact xz'
        clear hWn hS' xz'
        generalize wc.heap.size = gz at *
        rename World => wc
        refine rg_more [5, 7] 0 (by kernel_rfl) ?_
        simp only [pick, List.map_cons, List.map_nil, List.getD_cons_zero, List.getD_cons_succ]
        refine rg_one rfl rfl ?_; intro K hK; go_simp
        with_reducible refine (C2 _ hS).out.mono ?_
        rintro e wc ⟨rfl, hn⟩
        have hS := hS.trans (hn.mono hS.size)
        (try have xz := xz.below hn xz.lt)
        refine hK _ _ (fun _ => hS) ?_; clear hK hn
        refine rg_one rfl rfl ?_; intro K hK
        refine wp_store_at at25w.i (.tmp 4) (.tmp 16) rfl gz 0 25 (bvs (zb 32)) (bvs HD) rfl rfl xz (by rw [bvs_length]; exact HDL.out) (by rw [bvs_length, zb_length]; omega) (bvs_one _) ?_
        intro wz hbz hgz hsz
        clear hsz
        refine hK _ _ (fun h => by cases h) ?_; clear hK
        refine rg_done (by kernel_rfl) ?_
        rw [splice_all _ _ (by rw [bvs_length, bvs_length, zb_length]; exact HDL.out.symm)] at hbz
        have hz1 : Below w.heap.size w wz := hS.grown hgz hS.size (by intro k hk; cases hk; exact hgz0)
        have q1 : Blk (wz.alloc (.cells (bvs (zb 65)).toArray 191)) wz.heap.size 191 (bvs (zb 65)) := Blk.new _ _ _
        have q2 := hbz.alloc (.cells (bvs (zb 65)).toArray 191)
        have q3 : Below w.heap.size w (wz.alloc (.cells (bvs (zb 65)).toArray 191)) := hz1.alloc hz1.size _
        have hlt := hbz.lt
        have hgw := hz1.size
        go_upto_region 6 with fail
        generalize hWq : World.alloc wz _ = wy
        have r1 : Blk wy wz.heap.size 191 (bvs (zb 65)) := by rw [← hWq]; exact q1
        have r2 : Blk wy gz 25 (bvs HD) := by rw [← hWq]; exact q2
        have r3 : Below w.heap.size w wy := by rw [← hWq]; exact q3
        clear hWq q1 q2 q3
        generalize wz.heap.size = gy at *
        refine wp_region_lit ?_
        refine wpList_yield rfl _ (exec_ia0 ia191 _ _ rfl gy 0 _ rfl rfl (by decide)) ?_
        simp only [Act.put, List.setIfInBounds_toArray, List.set_cons_zero, List.set_cons_succ]
        refine wpList_store_one rfl one5 (.tmp 17) _ rfl gy 0 191 (bvs (zb 65)) (.int .u8 5) rfl rfl rfl r1 (by rw [bvs_length, zb_length]; decide) ?_
        (try simp only [Act.put, List.setIfInBounds_toArray, List.set_cons_zero, List.set_cons_succ])
        refine wpList_nil ?_
        have s1 := r1.set_ 0 (.int .u8 5)
        rw [put5_0] at s1
        have s2 := r2.far (p := ⟨gy, 0, none⟩) (by simp; omega) (.int .u8 5)
        have s3 := r3.setCell (p := ⟨gy, 0, none⟩) hgw (.int .u8 5)
        generalize World.setCell wy _ _ = wx at *
        go_upto_region 7 with fail
        refine rg_begin (Any) [] [2] [0, 1, 2] 0 mixed (by kernel_rfl) (fun _ _ _ _ e hh => ⟨e.symm.trans hh.1, hh.2⟩) ?_
        simp only [pick, List.map_cons, List.map_nil, List.getD_cons_zero, List.getD_cons_succ]
        have hS7 : (Any) _ := any_at wx.drew
        refine rg_take rfl rfl hS7 (fun W hW => exec_arr_from ia191 _ _ rfl gy 0 1 _ rfl rfl (by decide)) ?_
        simp only [Act.put, List.setIfInBounds_toArray, List.set_cons_zero, List.set_cons_succ]
        refine rg_take rfl rfl hS7 (fun W hW => exec_arr_all ia25 _ rfl gz 0 rfl) ?_
        simp only [Act.put, List.setIfInBounds_toArray, List.set_cons_zero, List.set_cons_succ]
        refine rg_one rfl rfl ?_; intro K hK
        refine wp_copy_mid bt (.tmp 18) (.tmp 19) rfl gy (0 + 1) (65 - 1) (65 - 1) ⟨gz, 0, none⟩ 32 32 rfl rfl 191 _ HD s1.drew (Rd.of_blk0 (es := []) (by simpa using s2.drew)) HDL.out (by simp [bvs_length, zb_length]) 32 rfl ?_
        intro wv hv1 hgv hsv
        clear hsv
        have hAv := any_at wv
        refine hK _ _ (fun _ => hAv) ?_; clear hK
        refine rg_done (by kernel_rfl) ?_
        rw [splice_bvs] at hv1
        have hv2 : Blk wv gy 191 (bvs (5 :: (HD ++ zb 32))) := by rw [← P1.out]; exact hv1
        have hv3 : Below w.heap.size w wv := s3.drew.grown hgv s3.size (by intro k hk; cases hk; exact hgw)
        clear hv1 s1 s2 r1 r2 r3 hgv
        go_upto_region 8 with fail
        refine rg_begin (Any) [] [6] [0, 1, 2, 3, 4, 5, 6] 0 mixed (by kernel_rfl) (fun _ _ _ _ e hh => ⟨e.symm.trans hh.1, hh.2⟩) ?_
        simp only [pick, List.map_cons, List.map_nil, List.getD_cons_zero, List.getD_cons_succ]
        have hS8 : (Any) _ := any_at wv.drew
        refine rg_take rfl rfl hS8 (fun W hW => exec_arr_from ia191 _ _ rfl gy 0 33 _ rfl rfl (by decide)) ?_
        simp only [Act.put, List.setIfInBounds_toArray, List.set_cons_zero, List.set_cons_succ]
        refine rg_take (v := ?v17_1) rfl rfl hS8 ?y17_1 ?_
        case y17_1 => intro W hW; (try subst hW); go_simp; try with_reducible rfl
        simp only [Act.put, List.setIfInBounds_toArray, List.set_cons_zero, List.set_cons_succ]
        refine rg_take (v := ?v17_2) rfl rfl hS8 ?y17_2 ?_
        case y17_2 => intro W hW; (try subst hW); go_simp; try with_reducible rfl
        simp only [Act.put, List.setIfInBounds_toArray, List.set_cons_zero, List.set_cons_succ]
        refine rg_take rfl rfl hS8 (fun W hW => exec_isub _ _ rfl _ _ (((n - 1 : Nat) : Int)) rfl rfl (by omega) (by omega)) ?_
        simp only [Act.put, List.setIfInBounds_toArray, List.set_cons_zero, List.set_cons_succ]
        refine rg_take rfl rfl hS8 (fun W hW => exec_siaz Try.underlying132 sz25 _ _ rfl pa n c (n - 1) _ rfl rfl (by omega)) ?_
        simp only [Act.put, List.setIfInBounds_toArray, List.set_cons_zero, List.set_cons_succ]
        refine rg_take rfl rfl hS8 (fun W hW => exec_arr_all_ad ia25 _ rfl (pa.add ((n - 1) * 32)) rfl) ?_
        simp only [Act.put, List.setIfInBounds_toArray, List.set_cons_zero, List.set_cons_succ]
        refine rg_one rfl rfl ?_; intro K hK
        refine wp_copy_mid bt (.tmp 21) (.tmp 26) rfl gy (0 + 33) (65 - 33) (65 - 33) (pa.add ((n - 1) * 32)) 32 32 rfl rfl 191 _ RT hv2.drew ((hrd.below hv3).drew) HRL.out (by simp [bvs_length, zb_length, HDL.out]) 32 rfl ?_
        intro wu hu1 hgu hsu
        clear hsu
        have hAu := any_at wu
        refine hK _ _ (fun _ => hAu) ?_; clear hK
        refine rg_done (by kernel_rfl) ?_
        rw [splice_bvs] at hu1
        have hu2 : Blk wu gy 191 (bvs (5 :: (HD ++ RT))) := by rw [← P2.out]; exact hu1
        have hu3 : Below w.heap.size w wu := hv3.drew.grown hgu hv3.size (by intro k hk; cases hk; exact hgw)
        go_upto_region 9 with fail
        refine wp_region_lit ?_
        refine wpList_yield rfl _ (exec_arr_all ia191 _ rfl gy 0 rfl) ?_
        simp only [Act.put, List.setIfInBounds_toArray, List.set_cons_zero, List.set_cons_succ]
        refine wpList_yield rfl _ (exec_assign _ rfl) ?_
        simp only [Act.put, Act.eval, Array.getD_eq_getD_getElem?, List.getElem?_toArray, List.getElem?_cons_succ, List.getElem?_cons_zero, Option.getD_some, List.setIfInBounds_toArray, List.set_cons_zero, List.set_cons_succ]
        refine wpList_nil ?_
        go_wp2_with fail
        go_ret
        exact ⟨_, 65, rfl, ⟨by simp [HDL.out, HRL.out], Nat.le_refl _, by unfold maxLen; omega, Rd.of_blk0 (es := []) (by simpa using hu2), fun _ _ h => h⟩, fun ad e => by cases e; exact hgw, hu3⟩
    · intro K hK; go_simp
      have hgz0 : w.heap.size ≤ wc.heap.size := hS.size
      have hS' : Below w.heap.size w (wc.alloc (.cells (bvs (zb 32)).toArray 25)) := hS.alloc hS.size _
      have xz' : Blk (wc.alloc (.cells (bvs (zb 32)).toArray 25)) wc.heap.size 25 (bvs (zb 32)) := Blk.new _ _ _
      refine hK _ _ (fun _ => hS') ?_; clear hK
      generalize hWn : World.alloc wc _ = wn
      have hS : Below w.heap.size w wn := by rw [← hWn]; exact hS'
      have xz : Blk wn wc.heap.size 25 (bvs (zb 32)) := by rw [← hWn]; exact xz'
      clear hWn hS' xz'
      generalize wc.heap.size = gz at *
      rename World => wc
      refine rg_more [0, 5, 7] 0 (by kernel_rfl) ?_
      simp only [pick, List.map_cons, List.map_nil, List.getD_cons_zero, List.getD_cons_succ]
      refine rg_one rfl rfl ?_; intro K hK; go_simp
      with_reducible refine (C1 _).out.mono ?_
      rintro e wc ⟨rfl, hn⟩
      have hS := hS.trans (hn.mono hS.size)
      (try have xz := xz.below hn xz.lt)
      refine hK _ _ (fun _ => hS) ?_; clear hK hn
      refine rg_one rfl rfl ?_; intro K hK; go_simp
      with_reducible refine (C2 _ hS).out.mono ?_
      rintro e wc ⟨rfl, hn⟩
      have hS := hS.trans (hn.mono hS.size)
      (try have xz := xz.below hn xz.lt)
      refine hK _ _ (fun _ => hS) ?_; clear hK hn
      refine rg_one rfl rfl ?_; intro K hK
      refine wp_store_at at25w.i (.tmp 4) (.tmp 16) rfl gz 0 25 (bvs (zb 32)) (bvs HD) rfl rfl xz (by rw [bvs_length]; exact HDL.out) (by rw [bvs_length, zb_length]; omega) (bvs_one _) ?_
      intro wz hbz hgz hsz
      clear hsz
      refine hK _ _ (fun h => by cases h) ?_; clear hK
      refine rg_done (by kernel_rfl) ?_
      rw [splice_all _ _ (by rw [bvs_length, bvs_length, zb_length]; exact HDL.out.symm)] at hbz
      have hz1 : Below w.heap.size w wz := hS.grown hgz hS.size (by intro k hk; cases hk; exact hgz0)
      have q1 : Blk (wz.alloc (.cells (bvs (zb 65)).toArray 191)) wz.heap.size 191 (bvs (zb 65)) := Blk.new _ _ _
      have q2 := hbz.alloc (.cells (bvs (zb 65)).toArray 191)
      have q3 : Below w.heap.size w (wz.alloc (.cells (bvs (zb 65)).toArray 191)) := hz1.alloc hz1.size _
      have hlt := hbz.lt
      have hgw := hz1.size
      go_upto_region 6 with fail
      generalize hWq : World.alloc wz _ = wy
      have r1 : Blk wy wz.heap.size 191 (bvs (zb 65)) := by rw [← hWq]; exact q1
      have r2 : Blk wy gz 25 (bvs HD) := by rw [← hWq]; exact q2
      have r3 : Below w.heap.size w wy := by rw [← hWq]; exact q3
      clear hWq q1 q2 q3
      generalize wz.heap.size = gy at *
      refine wp_region_lit ?_
      refine wpList_yield rfl _ (exec_ia0 ia191 _ _ rfl gy 0 _ rfl rfl (by decide)) ?_
      simp only [Act.put, List.setIfInBounds_toArray, List.set_cons_zero, List.set_cons_succ]
      refine wpList_store_one rfl one5 (.tmp 17) _ rfl gy 0 191 (bvs (zb 65)) (.int .u8 5) rfl rfl rfl r1 (by rw [bvs_length, zb_length]; decide) ?_
      (try simp only [Act.put, List.setIfInBounds_toArray, List.set_cons_zero, List.set_cons_succ])
      refine wpList_nil ?_
      have s1 := r1.set_ 0 (.int .u8 5)
      rw [put5_0] at s1
      have s2 := r2.far (p := ⟨gy, 0, none⟩) (by simp; omega) (.int .u8 5)
      have s3 := r3.setCell (p := ⟨gy, 0, none⟩) hgw (.int .u8 5)
      generalize World.setCell wy _ _ = wx at *
      go_upto_region 7 with fail
      refine rg_begin (Any) [] [2] [0, 1, 2] 0 mixed (by kernel_rfl) (fun _ _ _ _ e hh => ⟨e.symm.trans hh.1, hh.2⟩) ?_
      simp only [pick, List.map_cons, List.map_nil, List.getD_cons_zero, List.getD_cons_succ]
      have hS7 : (Any) _ := any_at wx.drew
      refine rg_take rfl rfl hS7 (fun W hW => exec_arr_from ia191 _ _ rfl gy 0 1 _ rfl rfl (by decide)) ?_
      simp only [Act.put, List.setIfInBounds_toArray, List.set_cons_zero, List.set_cons_succ]
      refine rg_take rfl rfl hS7 (fun W hW => exec_arr_all ia25 _ rfl gz 0 rfl) ?_
      simp only [Act.put, List.setIfInBounds_toArray, List.set_cons_zero, List.set_cons_succ]
      refine rg_one rfl rfl ?_; intro K hK
      refine wp_copy_mid bt (.tmp 18) (.tmp 19) rfl gy (0 + 1) (65 - 1) (65 - 1) ⟨gz, 0, none⟩ 32 32 rfl rfl 191 _ HD s1.drew (Rd.of_blk0 (es := []) (by simpa using s2.drew)) HDL.out (by simp [bvs_length, zb_length]) 32 rfl ?_
      intro wv hv1 hgv hsv
      clear hsv
      have hAv := any_at wv
      refine hK _ _ (fun _ => hAv) ?_; clear hK
      refine rg_done (by kernel_rfl) ?_
      rw [splice_bvs] at hv1
      have hv2 : Blk wv gy 191 (bvs (5 :: (HD ++ zb 32))) := by rw [← P1.out]; exact hv1
      have hv3 : Below w.heap.size w wv := s3.drew.grown hgv s3.size (by intro k hk; cases hk; exact hgw)
      clear hv1 s1 s2 r1 r2 r3 hgv
      go_upto_region 8 with fail
      refine rg_begin (Any) [] [6] [0, 1, 2, 3, 4, 5, 6] 0 mixed (by kernel_rfl) (fun _ _ _ _ e hh => ⟨e.symm.trans hh.1, hh.2⟩) ?_
      simp only [pick, List.map_cons, List.map_nil, List.getD_cons_zero, List.getD_cons_succ]
      have hS8 : (Any) _ := any_at wv.drew
      refine rg_take rfl rfl hS8 (fun W hW => exec_arr_from ia191 _ _ rfl gy 0 33 _ rfl rfl (by decide)) ?_
      simp only [Act.put, List.setIfInBounds_toArray, List.set_cons_zero, List.set_cons_succ]
      refine rg_take (v := ?v19_1) rfl rfl hS8 ?y19_1 ?_
      case y19_1 => intro W hW; (try subst hW); go_simp; try with_reducible rfl
      simp only [Act.put, List.setIfInBounds_toArray, List.set_cons_zero, List.set_cons_succ]
      refine rg_take (v := ?v19_2) rfl rfl hS8 ?y19_2 ?_
      case y19_2 => intro W hW; (try subst hW); go_simp; try with_reducible rfl
      simp only [Act.put, List.setIfInBounds_toArray, List.set_cons_zero, List.set_cons_succ]
      refine rg_take rfl rfl hS8 (fun W hW => exec_isub _ _ rfl _ _ (((n - 1 : Nat) : Int)) rfl rfl (by omega) (by omega)) ?_
      simp only [Act.put, List.setIfInBounds_toArray, List.set_cons_zero, List.set_cons_succ]
      refine rg_take rfl rfl hS8 (fun W hW => exec_siaz Try.underlying132 sz25 _ _ rfl pa n c (n - 1) _ rfl rfl (by omega)) ?_
      simp only [Act.put, List.setIfInBounds_toArray, List.set_cons_zero, List.set_cons_succ]
      refine rg_take rfl rfl hS8 (fun W hW => exec_arr_all_ad ia25 _ rfl (pa.add ((n - 1) * 32)) rfl) ?_
      simp only [Act.put, List.setIfInBounds_toArray, List.set_cons_zero, List.set_cons_succ]
      refine rg_one rfl rfl ?_; intro K hK
      refine wp_copy_mid bt (.tmp 21) (.tmp 26) rfl gy (0 + 33) (65 - 33) (65 - 33) (pa.add ((n - 1) * 32)) 32 32 rfl rfl 191 _ RT hv2.drew ((hrd.below hv3).drew) HRL.out (by simp [bvs_length, zb_length, HDL.out]) 32 rfl ?_
      intro wu hu1 hgu hsu
      clear hsu
      have hAu := any_at wu
      refine hK _ _ (fun _ => hAu) ?_; clear hK
      refine rg_done (by kernel_rfl) ?_
      rw [splice_bvs] at hu1
      have hu2 : Blk wu gy 191 (bvs (5 :: (HD ++ RT))) := by rw [← P2.out]; exact hu1
      have hu3 : Below w.heap.size w wu := hv3.drew.grown hgu hv3.size (by intro k hk; cases hk; exact hgw)
      go_upto_region 9 with fail
      refine wp_region_lit ?_
      refine wpList_yield rfl _ (exec_arr_all ia191 _ rfl gy 0 rfl) ?_
      simp only [Act.put, List.setIfInBounds_toArray, List.set_cons_zero, List.set_cons_succ]
      refine wpList_yield rfl _ (exec_assign _ rfl) ?_
      simp only [Act.put, Act.eval, Array.getD_eq_getD_getElem?, List.getElem?_toArray, List.getElem?_cons_succ, List.getElem?_cons_zero, Option.getD_some, List.setIfInBounds_toArray, List.set_cons_zero, List.set_cons_succ]
      refine wpList_nil ?_
      go_wp2_with fail
      go_ret
      exact ⟨_, 65, rfl, ⟨by simp [HDL.out, HRL.out], Nat.le_refl _, by unfold maxLen; omega, Rd.of_blk0 (es := []) (by simpa using hu2), fun _ _ h => h⟩, fun ad e => by cases e; exact hgw, hu3⟩
end Go.Proofs.Ytehbahobkgoapaa
namespace Go.Proofs.Ytehbahobkgoapaa
open Go Go.RowKit
set_option linter.unusedSimpArgs false
set_option linter.unusedVariables false
theorem exec_g0 {w : World} {a : Act} {o : Oper} (x : Operand) (ho : o.op = .fieldAddr 124 x 0) (g : Nat) (hx : a.eval x = .pointer (some ⟨g, 0, none⟩)) : (execOp a.eval o).run Try.prog w = .ok (.value (.pointer (some ⟨g, 0, none⟩))) w := by
  unfold execOp
  simp only [ho, hx]
  go_simp
theorem exec_g1 {w : World} {a : Act} {o : Oper} (x : Operand) (ho : o.op = .fieldAddr 124 x 1) (g : Nat) (hx : a.eval x = .pointer (some ⟨g, 0, none⟩)) : (execOp a.eval o).run Try.prog w = .ok (.value (.pointer (some ⟨g, 1, none⟩))) w := by
  unfold execOp
  simp only [ho, hx]
  go_simp
theorem at124 : AT Try.prog 124 2 := ⟨⟨_, Try.underlying124, rfl⟩, by kernel_rfl⟩
theorem pair_blk {w : World} {g : Nat} {u v : Value} (h : Blk w g 124 [u, v]) : w.cell? ⟨g, 0, none⟩ = some u ∧ w.cell? ⟨g, 1, none⟩ = some v := ⟨by rw [h.cell]; rfl, by rw [h.cell]; rfl⟩
end Go.Proofs.Ytehbahobkgoapaa
namespace Go.Proofs.Ytehbahobkgoapaa
open Go Go.RowKit
set_option linter.unusedSimpArgs false
set_option linter.unusedVariables false
def clashP : Nat → List (List UInt8) → List (List UInt8) → List UInt8 × List UInt8
  | 0, a, b => (txtH a, txtH b)
  | f + 1, a, b => if txtH a == txtH b then clashP f (a.take (a.length - 1)) (b.take (b.length - 1)) else (txtH a, txtH b)
def clashes (a b : List (List UInt8)) : Bool := !(a == b) && (foldH firstH a == foldH firstH b)
def clashR (a b : List (List UInt8)) : List UInt8 × List UInt8 := if clashes a b then clashP a.length a b else ([], [])
theorem txtH_length (ls : List (List UInt8)) (n : Nat) (hl : ls.length = n) (he : ∀ l ∈ ls, l.length = 32) : (txtH ls).length = txtN n := by
  unfold txtN
  by_cases h0 : n = 0
  · rw [txtH_nil ls (by omega), if_pos h0]; rfl
  · rw [txtH_cons ls n hl (by omega), if_neg h0, List.length_cons, List.length_append, foldH_length _ _ firstH_length]
    rw [List.getD_eq_getElem?_getD, List.getElem?_eq_getElem (by omega), Option.getD_some, he _ (List.getElem_mem (by omega))]
theorem take_last (a : List (List UInt8)) (h : 0 < a.length) : a.take (a.length - 1) ++ [a.getD (a.length - 1) []] = a := by
  have e := List.take_succ_eq_append_getElem (l := a) (i := a.length - 1) (by omega)
  rw [show a.length - 1 + 1 = a.length by omega, List.take_length] at e
  rw [List.getD_eq_getElem?_getD, List.getElem?_eq_getElem (by omega), Option.getD_some]
  exact e.symm
theorem txt_eq (a b : List (List UInt8)) (ha : ∀ l ∈ a, l.length = 32) (hb : ∀ l ∈ b, l.length = 32) (hab : a ≠ b) (h : txtH a = txtH b) :
    0 < a.length ∧ 0 < b.length ∧ a.take (a.length - 1) ≠ b.take (b.length - 1) ∧ foldH firstH (a.take (a.length - 1)) = foldH firstH (b.take (b.length - 1)) := by
  have la := txtH_length a _ rfl ha
  have lb := txtH_length b _ rfl hb
  rw [h, lb] at la
  have h1 : 0 < a.length := by
    apply Nat.pos_of_ne_zero
    intro h0
    have hb0 : b.length = 0 := by
      apply Nat.eq_zero_of_not_pos
      intro hp
      unfold txtN at la
      rw [if_pos h0, if_neg (by omega)] at la
      omega
    exact hab ((List.eq_nil_of_length_eq_zero h0).trans (List.eq_nil_of_length_eq_zero hb0).symm)
  have h2 : 0 < b.length := by
    apply Nat.pos_of_ne_zero
    intro h0
    unfold txtN at la
    rw [if_pos h0, if_neg (by omega)] at la
    omega
  rw [txtH_cons a _ rfl h1, txtH_cons b _ rfl h2] at h
  obtain ⟨e1, e2⟩ := List.append_inj (List.cons.inj h).2 (by rw [foldH_length _ _ firstH_length, foldH_length _ _ firstH_length])
  refine ⟨h1, h2, fun e => hab ?_, e1⟩
  rw [← take_last a h1, ← take_last b h2, e, e2]
theorem clash_step (a b : List (List UInt8)) (f : Nat) (hf : a.length = f) (h0 : 0 < f) (h : txtH a = txtH b) : clashP f a b = clashP (a.take (a.length - 1)).length (a.take (a.length - 1)) (b.take (b.length - 1)) := by
  obtain ⟨g, rfl⟩ : ∃ g, f = g + 1 := ⟨f - 1, by omega⟩
  rw [clashP, if_pos (by rw [h]; simp), List.length_take, hf]
  congr 1
  omega
theorem clash_done (a b : List (List UInt8)) (f : Nat) (h : txtH a ≠ txtH b) : clashP f a b = (txtH a, txtH b) := by
  cases f with
  | zero => rfl
  | succ f => rw [clashP, if_neg (by simpa using h)]
theorem exec_sneq {P : Program} {w : World} {a : Act} {o : Oper} {T T' : TypeId} {b : Bool} (hT : P.underlying T = some .string) (x y : Operand) (ho : o.op = .binOp .neq T x y T') (l k : List UInt8) (hx : a.eval x = .string ⟨l.toArray⟩) (hy : a.eval y = .string ⟨k.toArray⟩) (h : (l == k) = !b) :
    (execOp a.eval o).run P w = .ok (.value (.bool b)) w := by
  unfold execOp
  simp only [ho, hx, hy]
  go_simp
theorem Tx.grown {w w' : World} {A : Option Addr} {n c : Nat} {l : List UInt8} {g : Nat} (h : Tx w A n c l) (hg : w.grownBy w' (some g)) (hne : ∀ ad, A = some ad → ad.block ≠ g) : Tx w' A n c l :=
  ⟨h.len, h.cap, h.max, h.rd.fr ((Fr.refl (· = g) w).grown hg (by intro k hk; cases hk; exact .inl rfl)) (fun ad e q => hne ad e q), fun _ _ h => h⟩
/-- While the lists are shortened. -/
def ClS (N : Nat) (w : World) (res : List UInt8 × List UInt8) (v u : Value) (wr : World) : Prop :=
  ∃ (a b : List (List UInt8)) (A : Option Addr) (n c : Nat) (B : Option Addr) (m d : Nat), v = .slice A n c ∧ u = .slice B m d ∧ Hl w A n c a ∧ Hl w B m d b ∧ a ≠ b ∧ foldH firstH a = foldH firstH b ∧ clashP a.length a b = res ∧
    Blk wr N 124 [.slice none 0 0, .slice none 0 0] ∧ Below w.heap.size w wr
set_option maxRecDepth 100000 in
set_option maxHeartbeats 8000000 in
theorem clash102 (A : Option Addr) (n c : Nat) (a : List (List UInt8)) (B : Option Addr) (m d : Nat) (b : List (List UInt8)) (w : World) (h1 : Hl w A n c a) (h2 : Hl w B m d b) :
    Calls Try.prog 102 #[.slice A n c, .slice B m d] w fun e w' => ∃ A1 n1 c1 A2 n2 c2, e = .returned (.tuple #[.agg #[.slice A1 n1 c1, .slice A2 n2 c2], .bool (clashes a b)]) ∧ Tx w' A1 n1 c1 (clashR a b).1 ∧ Tx w' A2 n2 c2 (clashR a b).2 ∧ Below w.heap.size w w' := by
  have bz : Blk (w.alloc (.cells #[.slice none 0 0, .slice none 0 0] 124)) w.heap.size 124 [.slice none 0 0, .slice none 0 0] := Blk.new w 124 [.slice none 0 0, .slice none 0 0]
  have hw0 : Below w.heap.size w (w.alloc (.cells #[.slice none 0 0, .slice none 0 0] 124)) := (Below.refl _ _).alloc (Nat.le_refl _) _
  have CS := fun (u : World) (hu : Below w.heap.size w u) => Lib.hid (sameL143 A n c a B m d b u (h1.below hu) (h2.below hu) (a == b) rfl)
  have CF := fun u => Lib.hid (cfirst_any u)
  have CA := fun (u : World) (hu : Below w.heap.size w u) => Lib.hid (fold_any firstH A n c a u firstH_length (h1.below hu))
  have CB := fun (u : World) (hu : Below w.heap.size w u) => Lib.hid (fold_any firstH B m d b u firstH_length (h2.below hu))
  rw [show shaL [4] = firstH from rfl] at CF
  have LA : Hid ((foldH firstH a).length = 32) := Lib.hid (foldH_length _ _ firstH_length)
  have LB : Hid ((foldH firstH b).length = 32) := Lib.hid (foldH_length _ _ firstH_length)
  have hnil : ∀ u : World, Tx u none 0 0 [] := fun u => ⟨rfl, Nat.le_refl _, Nat.zero_le _, Rd.nil _ _, fun _ _ h => h⟩
  by_cases hab : a = b
  · have e1 : (a == b) = true := by simp [hab]
    have e2 : clashes a b = false := by unfold clashes; rw [e1]; rfl
    have e3 : clashR a b = ([], []) := by unfold clashR; rw [e2]; rfl
    rw [e2, e3]
    rw [e1] at CS
    clear e1 e2 e3 hab CF CA CB LA LB
    go_enter Try.func102, Try.ntmps102
    go_upto_region 1 with fail
    generalize hW : World.alloc w _ = w0
    have h3 : Blk w0 w.heap.size 124 [.slice none 0 0, .slice none 0 0] ∧ Below w.heap.size w w0 := by rw [← hW]; exact ⟨bz, hw0⟩
    clear hW bz hw0
    obtain ⟨bz, hw0⟩ := h3
    refine wp_region_lit ?_
    refine wpList_yield rfl _ (exec_move _ rfl) ?_
    simp only [Act.put, Act.eval, Array.getD_eq_getD_getElem?, List.getElem?_toArray, List.getElem?_cons_succ, List.getElem?_cons_zero, Option.getD_some, List.setIfInBounds_toArray, List.set_cons_zero, List.set_cons_succ]
    refine wpList_yield rfl _ (exec_move _ rfl) ?_
    simp only [Act.put, Act.eval, Array.getD_eq_getD_getElem?, List.getElem?_toArray, List.getElem?_cons_succ, List.getElem?_cons_zero, Option.getD_some, List.setIfInBounds_toArray, List.set_cons_zero, List.set_cons_succ]
    refine wpList_plain rfl fun K hK => ?_; go_simp
    with_reducible refine (CS _ hw0).out.mono ?_
    rintro e w1 ⟨rfl, hw1⟩
    refine hK _ _ ?_; clear hK
    (try simp only [Act.put, List.setIfInBounds_toArray, List.set_cons_zero, List.set_cons_succ])
    refine wpList_yield rfl _ (exec_move _ rfl) ?_
    simp only [Act.put, Act.eval, Array.getD_eq_getD_getElem?, List.getElem?_toArray, List.getElem?_cons_succ, List.getElem?_cons_zero, Option.getD_some, List.setIfInBounds_toArray, List.set_cons_zero, List.set_cons_succ]
    refine wpList_skip_w rfl ?_
    simp only [Act.put, List.setIfInBounds_toArray, List.set_cons_zero, List.set_cons_succ]
    refine wpList_skip_w rfl ?_
    simp only [Act.put, List.setIfInBounds_toArray, List.set_cons_zero, List.set_cons_succ]
    refine wpList_skip_w rfl ?_
    simp only [Act.put, List.setIfInBounds_toArray, List.set_cons_zero, List.set_cons_succ]
    refine wpList_skip_w rfl ?_
    simp only [Act.put, List.setIfInBounds_toArray, List.set_cons_zero, List.set_cons_succ]
    refine wpList_skip_w rfl ?_
    simp only [Act.put, List.setIfInBounds_toArray, List.set_cons_zero, List.set_cons_succ]
    refine wpList_skip_w rfl ?_
    simp only [Act.put, List.setIfInBounds_toArray, List.set_cons_zero, List.set_cons_succ]
    refine wpList_skip_w rfl ?_
    simp only [Act.put, List.setIfInBounds_toArray, List.set_cons_zero, List.set_cons_succ]
    refine wpList_yield rfl ?vp1_11 ?yp1_11 ?_
    case yp1_11 => go_simp; try with_reducible rfl
    simp only [Act.put, List.setIfInBounds_toArray, List.set_cons_zero, List.set_cons_succ]
    refine wpList_nil ?_
    go_upto_region 2 with fail
    refine wp_region_lit ?_
    refine wpList_yield rfl _ (exec_build _ rfl #[.slice none 0 0, .slice none 0 0] (by kernel_rfl)) ?_
    simp only [Act.put, List.setIfInBounds_toArray, List.set_cons_zero, List.set_cons_succ]
    refine wpList_store_at at124.i rfl (.tmp 4) (.tmp 20) rfl w.heap.size 0 124 [.slice none 0 0, .slice none 0 0] [.slice none 0 0, .slice none 0 0] rfl rfl (bz.below hw1 bz.lt) rfl (Nat.le_refl 2) (by simp [Value.oneCell']) ?_
    intro w2 hb2 hg2 hs2
    (try simp only [Act.put, List.setIfInBounds_toArray, List.set_cons_zero, List.set_cons_succ])
    refine wpList_yield rfl _ (exec_assign _ rfl) ?_
    simp only [Act.put, Act.eval, Array.getD_eq_getD_getElem?, List.getElem?_toArray, List.getElem?_cons_succ, List.getElem?_cons_zero, Option.getD_some, List.setIfInBounds_toArray, List.set_cons_zero, List.set_cons_succ]
    refine wpList_nil ?_
    go_wp2_with fail
    (try simp only [Exit.inBlock, Exit.then])
    rw [splice_all _ _ (by rfl)] at hb2
    refine bodyPost_ret (ret_cell_tmp rfl at124 _ _ w.heap.size 124 _ rfl hb2 rfl) rfl ?_
    exact ⟨none, 0, 0, none, 0, 0, rfl, hnil _, hnil _, (bthen hw0 hw1 hw0.size).grown hg2 (Nat.le_trans hw0.size hw1.size) (by intro k hk; cases hk; omega)⟩
  · have e1 : (a == b) = false := by simp [hab]
    rw [e1] at CS
    by_cases hfo : foldH firstH a = foldH firstH b
    · have e2 : clashes a b = true := by unfold clashes; rw [e1, hfo]; simp
      have e3 : clashR a b = clashP a.length a b := by unfold clashR; rw [e2]; rfl
      rw [e2, e3]
      have hD : Hid ((foldH firstH a == foldH firstH b) = !false) := Lib.hid (by rw [hfo]; simp)
      have hst : ∀ (u : World), Blk u w.heap.size 124 [.slice none 0 0, .slice none 0 0] → Below w.heap.size w u → ClS w.heap.size w (clashP a.length a b) (.slice A n c) (.slice B m d) u := fun u x y => ⟨a, b, A, n, c, B, m, d, rfl, rfl, h1, h2, hab, hfo, rfl, x, y⟩
      clear e1 e2 e3 hab hfo h1 h2
      generalize clashP a.length a b = res at *
      generalize foldH firstH a = fa at *
      generalize foldH firstH b = fb at *
      generalize firstH = FH at CF CA CB
      unfold arr8 at *
      go_enter Try.func102, Try.ntmps102
      go_upto_region 1 with fail
      generalize hW : World.alloc w _ = w0
      have h3 : Blk w0 w.heap.size 124 [.slice none 0 0, .slice none 0 0] ∧ Below w.heap.size w w0 := by rw [← hW]; exact ⟨bz, hw0⟩
      clear hW bz hw0
      obtain ⟨bz, hw0⟩ := h3
      refine wp_region_lit ?_
      refine wpList_yield rfl _ (exec_move _ rfl) ?_
      simp only [Act.put, Act.eval, Array.getD_eq_getD_getElem?, List.getElem?_toArray, List.getElem?_cons_succ, List.getElem?_cons_zero, Option.getD_some, List.setIfInBounds_toArray, List.set_cons_zero, List.set_cons_succ]
      refine wpList_yield rfl _ (exec_move _ rfl) ?_
      simp only [Act.put, Act.eval, Array.getD_eq_getD_getElem?, List.getElem?_toArray, List.getElem?_cons_succ, List.getElem?_cons_zero, Option.getD_some, List.setIfInBounds_toArray, List.set_cons_zero, List.set_cons_succ]
      refine wpList_plain rfl fun K hK => ?_; go_simp
      with_reducible refine (CS _ hw0).out.mono ?_
      rintro e w1 ⟨rfl, hw1⟩
      have hB1 := bthen hw0 hw1 hw0.size
      refine hK _ _ ?_; clear hK
      (try simp only [Act.put, List.setIfInBounds_toArray, List.set_cons_zero, List.set_cons_succ])
      refine wpList_yield rfl _ (exec_move _ rfl) ?_
      simp only [Act.put, Act.eval, Array.getD_eq_getD_getElem?, List.getElem?_toArray, List.getElem?_cons_succ, List.getElem?_cons_zero, Option.getD_some, List.setIfInBounds_toArray, List.set_cons_zero, List.set_cons_succ]
      refine wpList_plain_w rfl fun K hK => ?_; go_simp
      with_reducible refine (CF _).out.mono ?_
      rintro e w2 ⟨rfl, hw2⟩
      have hB2 := bthen hB1 hw2 hB1.size
      refine hK _ _ ?_; clear hK
      (try simp only [Act.put, List.setIfInBounds_toArray, List.set_cons_zero, List.set_cons_succ])
      refine wpList_yield_w rfl _ (exec_move _ rfl) ?_
      simp only [Act.put, Act.eval, Array.getD_eq_getD_getElem?, List.getElem?_toArray, List.getElem?_cons_succ, List.getElem?_cons_zero, Option.getD_some, List.setIfInBounds_toArray, List.set_cons_zero, List.set_cons_succ]
      refine wpList_plain_w rfl fun K hK => ?_; go_simp
      with_reducible refine (CA _ hB2).out.mono ?_
      rintro e w3 ⟨rfl, hw3⟩
      have hB3 := bthen hB2 hw3 hB2.size
      refine hK _ _ ?_; clear hK
      (try simp only [Act.put, List.setIfInBounds_toArray, List.set_cons_zero, List.set_cons_succ])
      refine wpList_plain_w rfl fun K hK => ?_; go_simp
      with_reducible refine (CF _).out.mono ?_
      rintro e w4 ⟨rfl, hw4⟩
      have hB4 := bthen hB3 hw4 hB3.size
      refine hK _ _ ?_; clear hK
      (try simp only [Act.put, List.setIfInBounds_toArray, List.set_cons_zero, List.set_cons_succ])
      refine wpList_yield_w rfl _ (exec_move _ rfl) ?_
      simp only [Act.put, Act.eval, Array.getD_eq_getD_getElem?, List.getElem?_toArray, List.getElem?_cons_succ, List.getElem?_cons_zero, Option.getD_some, List.setIfInBounds_toArray, List.set_cons_zero, List.set_cons_succ]
      refine wpList_plain_w rfl fun K hK => ?_; go_simp
      with_reducible refine (CB _ hB4).out.mono ?_
      rintro e w5 ⟨rfl, hw5⟩
      have hB5 := bthen hB4 hw5 hB4.size
      refine hK _ _ ?_; clear hK
      (try simp only [Act.put, List.setIfInBounds_toArray, List.set_cons_zero, List.set_cons_succ])
      refine wpList_yield_w rfl _ (exec_neq_to ab25 _ _ rfl fa fb rfl rfl LA.out LB.out hD.out) ?_
      simp only [Act.put, List.setIfInBounds_toArray, List.set_cons_zero, List.set_cons_succ]
      refine wpList_yield rfl ?vp2_11 ?yp2_11 ?_
      case yp2_11 => go_simp; try with_reducible rfl
      simp only [Act.put, List.setIfInBounds_toArray, List.set_cons_zero, List.set_cons_succ]
      refine wpList_nil ?_
      have b9 := (((((bz.below hw1 bz.lt).below hw2 (bz.below hw1 bz.lt).lt).below hw3 ((bz.below hw1 bz.lt).below hw2 (bz.below hw1 bz.lt).lt).lt)).below (hw4.trans (hw5.mono hw4.size)) (((bz.below hw1 bz.lt).below hw2 (bz.below hw1 bz.lt).lt).below hw3 ((bz.below hw1 bz.lt).below hw2 (bz.below hw1 bz.lt).lt).lt).lt)
      have hb9 := hB5
      clear hB1 hB2 hB3 hB4 hB5 hw1 hw2 hw3 hw4 hw5 bz hw0 CS CF CA CB
      go_wp2_with fail
      go_loopw [0, 1] (fun v u wr => ClS w.heap.size w res v u wr) (fun v _ _ => sliceLen v)
      case atStart => exact hst _ b9 hb9
      case round =>
        clear hst b9 hb9
        obtain ⟨a, b, A, n, c, B, m, d, rfl, rfl, h1, h2, hab, hfo, hres, bz, hw0⟩ := hrel
        have T1 := fun (u : World) (hu : Below w.heap.size w u) => Lib.hid (chain_txt A n c a u (h1.below hu))
        have T2 := fun (u : World) (hu : Below w.heap.size w u) => Lib.hid (chain_txt B m d b u (h2.below hu))
        go_upto_region 3 with fail
        refine wp_region_lit ?_
        refine wpList_yield rfl _ (exec_move _ rfl) ?_
        simp only [Act.put, Act.eval, Array.getD_eq_getD_getElem?, List.getElem?_toArray, List.getElem?_cons_succ, List.getElem?_cons_zero, Option.getD_some, List.setIfInBounds_toArray, List.set_cons_zero, List.set_cons_succ]
        refine wpList_plain rfl fun K hK => ?_; go_simp
        with_reducible refine (T1 _ hw0).out.mono ?_
        rintro e w1 ⟨A1, c1, rfl, x1, f1, hw1⟩
        have hB1 := bthen hw0 hw1 hw0.size
        refine hK _ _ ?_; clear hK
        (try simp only [Act.put, List.setIfInBounds_toArray, List.set_cons_zero, List.set_cons_succ])
        refine wpList_yield rfl _ (exec_move _ rfl) ?_
        simp only [Act.put, Act.eval, Array.getD_eq_getD_getElem?, List.getElem?_toArray, List.getElem?_cons_succ, List.getElem?_cons_zero, Option.getD_some, List.setIfInBounds_toArray, List.set_cons_zero, List.set_cons_succ]
        refine wpList_plain rfl fun K hK => ?_; go_simp
        with_reducible refine (T2 _ hB1).out.mono ?_
        rintro e w2 ⟨A2, c2, rfl, x2, f2, hw2⟩
        have hB2 := bthen hB1 hw2 hB1.size
        refine hK _ _ ?_; clear hK
        (try simp only [Act.put, List.setIfInBounds_toArray, List.set_cons_zero, List.set_cons_succ])
        refine wpList_yield rfl _ (exec_assign _ rfl) ?_
        simp only [Act.put, Act.eval, Array.getD_eq_getD_getElem?, List.getElem?_toArray, List.getElem?_cons_succ, List.getElem?_cons_zero, Option.getD_some, List.setIfInBounds_toArray, List.set_cons_zero, List.set_cons_succ]
        refine wpList_yield rfl _ (exec_assign _ rfl) ?_
        simp only [Act.put, Act.eval, Array.getD_eq_getD_getElem?, List.getElem?_toArray, List.getElem?_cons_succ, List.getElem?_cons_zero, Option.getD_some, List.setIfInBounds_toArray, List.set_cons_zero, List.set_cons_succ]
        refine wpList_nil ?_
        have x1 := x1.below hw2
        have k1 : ∀ ad, A1 = some ad → ad.block ≠ w.heap.size := fun ad e q => by have h3 := f1 ad e; have h4 := bz.lt; omega
        have k2 : ∀ ad, A2 = some ad → ad.block ≠ w.heap.size := fun ad e q => by have h3 := f2 ad e; have h4 := bz.lt; have h5 := hw1.size; omega
        have bz := (bz.below hw1 bz.lt).below hw2 (bz.below hw1 bz.lt).lt
        clear T1 T2 hw1 hw2 hB1 hw0 f1 f2
        go_upto_region 4 with fail
        by_cases htx : txtH a = txtH b
        · obtain ⟨p1, p2, p3, p4⟩ := txt_eq a b h1.each h2.each hab htx
          have hstep := clash_step a b a.length rfl p1 htx
          rw [hres] at hstep
          rw [h1.len] at p1 p3 p4 hstep
          rw [h2.len] at p2 p3 p4 hstep
          have n1 : (n : Int) - 1 = ((n - 1 : Nat) : Int) := by omega
          have hc1 := h1.cap
          have hc2 := h2.cap
          have hm1 := h1.max
          have hm2 := h2.max
          unfold maxLen at hm1 hm2
          have HE : Hid ((txtH a == txtH b) = !false) := Lib.hid (by rw [htx]; simp)
          have g1 := h1.to (n - 1) (by omega)
          have g2 := h2.to (m - 1) (by omega)
          have HN : ∀ (u : World), Blk u w.heap.size 124 [.slice none 0 0, .slice none 0 0] → Below w.heap.size w u → ClS w.heap.size w res (.slice A (n - 1) c) (.slice B (m - 1) d) u := fun u x y => ⟨_, _, A, n - 1, c, B, m - 1, d, rfl, rfl, g1, g2, p3, p4, hstep.symm, x, y⟩
          have HNN := Lib.hid HN
          clear HN g1 g2 p3 p4 hstep hres hab hfo htx h1 h2 n1
          generalize txtH a = ta at *
          generalize txtH b = tb at *
          refine wp_region_lit ?_
          refine wpList_yield rfl _ (exec_move _ rfl) ?_
          simp only [Act.put, Act.eval, Array.getD_eq_getD_getElem?, List.getElem?_toArray, List.getElem?_cons_succ, List.getElem?_cons_zero, Option.getD_some, List.setIfInBounds_toArray, List.set_cons_zero, List.set_cons_succ]
          refine wpList_yield rfl _ (exec_move _ rfl) ?_
          simp only [Act.put, Act.eval, Array.getD_eq_getD_getElem?, List.getElem?_toArray, List.getElem?_cons_succ, List.getElem?_cons_zero, Option.getD_some, List.setIfInBounds_toArray, List.set_cons_zero, List.set_cons_succ]
          refine wpList_plain rfl fun K hK => ?_; go_simp
          with_reducible refine (sameB145 _ _ _ ta _ _ _ tb _ x1 x2 (ta == tb) rfl).mono ?_
          rintro e w3 ⟨rfl, hw3⟩
          rw [HE.out]
          refine hK _ _ ?_; clear hK
          (try simp only [Act.put, List.setIfInBounds_toArray, List.set_cons_zero, List.set_cons_succ])
          refine wpList_yield rfl ?vp3_3 ?yp3_3 ?_
          case yp3_3 => go_simp; try with_reducible rfl
          simp only [Act.put, List.setIfInBounds_toArray, List.set_cons_zero, List.set_cons_succ]
          refine wpList_nil ?_
          have hB3 := bthen hB2 hw3 hB2.size
          have bz3 := bz.below hw3 bz.lt
          have y1 := x1.below hw3
          have y2 := x2.below hw3
          go_upto_region 6 with fail
          refine rg_begin (Any) [] [] [0, 1, 2, 3, 4, 5, 6, 7, 8, 9, 10, 11] 0 mixed (by kernel_rfl) (fun _ _ _ _ e hh => ⟨e.symm.trans hh.1, hh.2⟩) ?_
          simp only [pick, List.map_cons, List.map_nil, List.getD_cons_zero, List.getD_cons_succ]
          have hS : (Any) _ := any_at w3.drew
          refine rg_take (v := ?v4_0) rfl rfl hS ?y4_0 ?_
          case y4_0 => intro W hW; (try subst hW); go_simp; try with_reducible rfl
          simp only [Act.put, List.setIfInBounds_toArray, List.set_cons_zero, List.set_cons_succ]
          refine rg_take (v := ?v4_1) rfl rfl hS ?y4_1 ?_
          case y4_1 => intro W hW; (try subst hW); go_simp; try with_reducible rfl
          simp only [Act.put, List.setIfInBounds_toArray, List.set_cons_zero, List.set_cons_succ]
          refine rg_take rfl rfl hS (fun W hW => exec_len132 _ rfl A n c rfl) ?_
          simp only [Act.put, List.setIfInBounds_toArray, List.set_cons_zero, List.set_cons_succ]
          refine rg_take rfl rfl hS (fun W hW => exec_isub _ _ rfl _ _ (((n - 1 : Nat) : Int)) rfl rfl (by omega) (by omega)) ?_
          simp only [Act.put, List.setIfInBounds_toArray, List.set_cons_zero, List.set_cons_succ]
          refine rg_take rfl rfl hS (fun W hW => exec_slice_to st132 _ _ rfl A n c (n - 1) .i64 rfl rfl (by omega)) ?_
          simp only [Act.put, List.setIfInBounds_toArray, List.set_cons_zero, List.set_cons_succ]
          refine rg_take (v := ?v4_5) rfl rfl hS ?y4_5 ?_
          case y4_5 => intro W hW; (try subst hW); go_simp; try with_reducible rfl
          simp only [Act.put, List.setIfInBounds_toArray, List.set_cons_zero, List.set_cons_succ]
          refine rg_take (v := ?v4_6) rfl rfl hS ?y4_6 ?_
          case y4_6 => intro W hW; (try subst hW); go_simp; try with_reducible rfl
          simp only [Act.put, List.setIfInBounds_toArray, List.set_cons_zero, List.set_cons_succ]
          refine rg_take rfl rfl hS (fun W hW => exec_len132 _ rfl B m d rfl) ?_
          simp only [Act.put, List.setIfInBounds_toArray, List.set_cons_zero, List.set_cons_succ]
          refine rg_take rfl rfl hS (fun W hW => exec_isub _ _ rfl _ _ (((m - 1 : Nat) : Int)) rfl rfl (by omega) (by omega)) ?_
          simp only [Act.put, List.setIfInBounds_toArray, List.set_cons_zero, List.set_cons_succ]
          refine rg_take rfl rfl hS (fun W hW => exec_slice_to st132 _ _ rfl B m d (m - 1) .i64 rfl rfl (by omega)) ?_
          simp only [Act.put, List.setIfInBounds_toArray, List.set_cons_zero, List.set_cons_succ]
          refine rg_take (v := ?v4_10) rfl rfl hS ?y4_10 ?_
          case y4_10 => intro W hW; (try subst hW); go_simp; try with_reducible rfl
          simp only [Act.put, List.setIfInBounds_toArray, List.set_cons_zero, List.set_cons_succ]
          refine rg_take (v := ?v4_11) rfl rfl hS ?y4_11 ?_
          case y4_11 => intro W hW; (try subst hW); go_simp; try with_reducible rfl
          simp only [Act.put, List.setIfInBounds_toArray, List.set_cons_zero, List.set_cons_succ]
          refine rg_done (by kernel_rfl) ?_
          go_wp2_with fail
          go_roundw
          case rel => exact HNN.out _ bz3.drew hB3.drew
          case measure => simp only [sliceLen]; omega
        · have hr2 := clash_done a b a.length htx
          rw [hres] at hr2
          subst hr2
          have HE : Hid ((txtH a == txtH b) = !true) := Lib.hid (by simp only [Bool.not_true, beq_eq_false_iff_ne]; exact htx)
          clear htx hres hab hfo h1 h2
          obtain ⟨ta, hta⟩ : ∃ t, t = txtH a := ⟨_, rfl⟩
          obtain ⟨tb, htb⟩ : ∃ t, t = txtH b := ⟨_, rfl⟩
          rw [← hta] at HE x1
          rw [← htb] at HE x2
          have HTA := Lib.hid hta
          have HTB := Lib.hid htb
          clear hta htb
          refine wp_region_lit ?_
          refine wpList_yield rfl _ (exec_move _ rfl) ?_
          simp only [Act.put, Act.eval, Array.getD_eq_getD_getElem?, List.getElem?_toArray, List.getElem?_cons_succ, List.getElem?_cons_zero, Option.getD_some, List.setIfInBounds_toArray, List.set_cons_zero, List.set_cons_succ]
          refine wpList_yield rfl _ (exec_move _ rfl) ?_
          simp only [Act.put, Act.eval, Array.getD_eq_getD_getElem?, List.getElem?_toArray, List.getElem?_cons_succ, List.getElem?_cons_zero, Option.getD_some, List.setIfInBounds_toArray, List.set_cons_zero, List.set_cons_succ]
          refine wpList_plain rfl fun K hK => ?_; go_simp
          with_reducible refine (sameB145 _ _ _ ta _ _ _ tb _ x1 x2 (ta == tb) rfl).mono ?_
          rintro e w3 ⟨rfl, hw3⟩
          rw [HE.out]
          refine hK _ _ ?_; clear hK
          (try simp only [Act.put, List.setIfInBounds_toArray, List.set_cons_zero, List.set_cons_succ])
          refine wpList_yield rfl ?vp5_3 ?yp5_3 ?_
          case yp5_3 => go_simp; try with_reducible rfl
          simp only [Act.put, List.setIfInBounds_toArray, List.set_cons_zero, List.set_cons_succ]
          refine wpList_nil ?_
          have hB3 := bthen hB2 hw3 hB2.size
          have bz3 := bz.below hw3 bz.lt
          have y1 := x1.below hw3
          have y2 := x2.below hw3
          go_upto_region 5 with fail
          refine wp_region_lit ?_
          refine wpList_yield rfl _ (exec_move _ rfl) ?_
          simp only [Act.put, Act.eval, Array.getD_eq_getD_getElem?, List.getElem?_toArray, List.getElem?_cons_succ, List.getElem?_cons_zero, Option.getD_some, List.setIfInBounds_toArray, List.set_cons_zero, List.set_cons_succ]
          refine wpList_yield rfl _ (exec_move _ rfl) ?_
          simp only [Act.put, Act.eval, Array.getD_eq_getD_getElem?, List.getElem?_toArray, List.getElem?_cons_succ, List.getElem?_cons_zero, Option.getD_some, List.setIfInBounds_toArray, List.set_cons_zero, List.set_cons_succ]
          refine wpList_yield rfl _ (exec_build _ rfl #[.slice A1 (txtN n) c1, .slice A2 (txtN m) c2] (by kernel_rfl)) ?_
          simp only [Act.put, List.setIfInBounds_toArray, List.set_cons_zero, List.set_cons_succ]
          refine wpList_store_at at124.i rfl (.tmp 4) (.tmp 31) rfl w.heap.size 0 124 [.slice none 0 0, .slice none 0 0] [.slice A1 (txtN n) c1, .slice A2 (txtN m) c2] rfl rfl bz3 rfl (Nat.le_refl 2) (by simp [Value.oneCell']) ?_
          intro w5 hb5 hg5 hs5
          (try simp only [Act.put, List.setIfInBounds_toArray, List.set_cons_zero, List.set_cons_succ])
          refine wpList_yield rfl _ (exec_assign _ rfl) ?_
          simp only [Act.put, Act.eval, Array.getD_eq_getD_getElem?, List.getElem?_toArray, List.getElem?_cons_succ, List.getElem?_cons_zero, Option.getD_some, List.setIfInBounds_toArray, List.set_cons_zero, List.set_cons_succ]
          refine wpList_nil ?_
          go_wp2_with fail
          (try simp only [Exit.inBlock, Exit.then])
          rw [splice_all _ _ (by rfl)] at hb5
          refine bodyPost_ret (ret_cell_tmp rfl at124 _ _ w.heap.size 124 _ rfl hb5 rfl) rfl ?_
          refine ⟨A1, txtN n, c1, A2, txtN m, c2, rfl, ?_, ?_, hB3.grown hg5 hB3.size (by intro k hk; cases hk; omega)⟩
          · exact (by rw [← HTA.out]; exact y1.grown hg5 k1)
          · exact (by rw [← HTB.out]; exact y2.grown hg5 k2)
    · have e2 : clashes a b = false := by unfold clashes; rw [e1]; simpa using hfo
      have e3 : clashR a b = ([], []) := by unfold clashR; rw [e2]; rfl
      rw [e2, e3]
      have hD : Hid ((foldH firstH a == foldH firstH b) = !true) := Lib.hid (by simpa using hfo)
      clear e1 e2 e3 hab hfo h1 h2
      generalize foldH firstH a = fa at *
      generalize foldH firstH b = fb at *
      generalize firstH = FH at CF CA CB
      unfold arr8 at *
      go_enter Try.func102, Try.ntmps102
      go_upto_region 1 with fail
      generalize hW : World.alloc w _ = w0
      have h3 : Blk w0 w.heap.size 124 [.slice none 0 0, .slice none 0 0] ∧ Below w.heap.size w w0 := by rw [← hW]; exact ⟨bz, hw0⟩
      clear hW bz hw0
      obtain ⟨bz, hw0⟩ := h3
      refine wp_region_lit ?_
      refine wpList_yield rfl _ (exec_move _ rfl) ?_
      simp only [Act.put, Act.eval, Array.getD_eq_getD_getElem?, List.getElem?_toArray, List.getElem?_cons_succ, List.getElem?_cons_zero, Option.getD_some, List.setIfInBounds_toArray, List.set_cons_zero, List.set_cons_succ]
      refine wpList_yield rfl _ (exec_move _ rfl) ?_
      simp only [Act.put, Act.eval, Array.getD_eq_getD_getElem?, List.getElem?_toArray, List.getElem?_cons_succ, List.getElem?_cons_zero, Option.getD_some, List.setIfInBounds_toArray, List.set_cons_zero, List.set_cons_succ]
      refine wpList_plain rfl fun K hK => ?_; go_simp
      with_reducible refine (CS _ hw0).out.mono ?_
      rintro e w1 ⟨rfl, hw1⟩
      have hB1 := bthen hw0 hw1 hw0.size
      refine hK _ _ ?_; clear hK
      (try simp only [Act.put, List.setIfInBounds_toArray, List.set_cons_zero, List.set_cons_succ])
      refine wpList_yield rfl _ (exec_move _ rfl) ?_
      simp only [Act.put, Act.eval, Array.getD_eq_getD_getElem?, List.getElem?_toArray, List.getElem?_cons_succ, List.getElem?_cons_zero, Option.getD_some, List.setIfInBounds_toArray, List.set_cons_zero, List.set_cons_succ]
      refine wpList_plain_w rfl fun K hK => ?_; go_simp
      with_reducible refine (CF _).out.mono ?_
      rintro e w2 ⟨rfl, hw2⟩
      have hB2 := bthen hB1 hw2 hB1.size
      refine hK _ _ ?_; clear hK
      (try simp only [Act.put, List.setIfInBounds_toArray, List.set_cons_zero, List.set_cons_succ])
      refine wpList_yield_w rfl _ (exec_move _ rfl) ?_
      simp only [Act.put, Act.eval, Array.getD_eq_getD_getElem?, List.getElem?_toArray, List.getElem?_cons_succ, List.getElem?_cons_zero, Option.getD_some, List.setIfInBounds_toArray, List.set_cons_zero, List.set_cons_succ]
      refine wpList_plain_w rfl fun K hK => ?_; go_simp
      with_reducible refine (CA _ hB2).out.mono ?_
      rintro e w3 ⟨rfl, hw3⟩
      have hB3 := bthen hB2 hw3 hB2.size
      refine hK _ _ ?_; clear hK
      (try simp only [Act.put, List.setIfInBounds_toArray, List.set_cons_zero, List.set_cons_succ])
      refine wpList_plain_w rfl fun K hK => ?_; go_simp
      with_reducible refine (CF _).out.mono ?_
      rintro e w4 ⟨rfl, hw4⟩
      have hB4 := bthen hB3 hw4 hB3.size
      refine hK _ _ ?_; clear hK
      (try simp only [Act.put, List.setIfInBounds_toArray, List.set_cons_zero, List.set_cons_succ])
      refine wpList_yield_w rfl _ (exec_move _ rfl) ?_
      simp only [Act.put, Act.eval, Array.getD_eq_getD_getElem?, List.getElem?_toArray, List.getElem?_cons_succ, List.getElem?_cons_zero, Option.getD_some, List.setIfInBounds_toArray, List.set_cons_zero, List.set_cons_succ]
      refine wpList_plain_w rfl fun K hK => ?_; go_simp
      with_reducible refine (CB _ hB4).out.mono ?_
      rintro e w5 ⟨rfl, hw5⟩
      have hB5 := bthen hB4 hw5 hB4.size
      refine hK _ _ ?_; clear hK
      (try simp only [Act.put, List.setIfInBounds_toArray, List.set_cons_zero, List.set_cons_succ])
      refine wpList_yield_w rfl _ (exec_neq_to ab25 _ _ rfl fa fb rfl rfl LA.out LB.out hD.out) ?_
      simp only [Act.put, List.setIfInBounds_toArray, List.set_cons_zero, List.set_cons_succ]
      refine wpList_yield rfl ?vp6_11 ?yp6_11 ?_
      case yp6_11 => go_simp; try with_reducible rfl
      simp only [Act.put, List.setIfInBounds_toArray, List.set_cons_zero, List.set_cons_succ]
      refine wpList_nil ?_
      have b9 := (((((bz.below hw1 bz.lt).below hw2 (bz.below hw1 bz.lt).lt).below hw3 ((bz.below hw1 bz.lt).below hw2 (bz.below hw1 bz.lt).lt).lt)).below (hw4.trans (hw5.mono hw4.size)) (((bz.below hw1 bz.lt).below hw2 (bz.below hw1 bz.lt).lt).below hw3 ((bz.below hw1 bz.lt).below hw2 (bz.below hw1 bz.lt).lt).lt).lt)
      have hb9 := hB5
      clear hB1 hB2 hB3 hB4 hB5 hw1 hw2 hw3 hw4 hw5 bz hw0 CS CF CA CB
      go_upto_region 2 with fail
      refine wp_region_lit ?_
      refine wpList_yield rfl _ (exec_build _ rfl #[.slice none 0 0, .slice none 0 0] (by kernel_rfl)) ?_
      simp only [Act.put, List.setIfInBounds_toArray, List.set_cons_zero, List.set_cons_succ]
      refine wpList_store_at at124.i rfl (.tmp 4) (.tmp 20) rfl w.heap.size 0 124 [.slice none 0 0, .slice none 0 0] [.slice none 0 0, .slice none 0 0] rfl rfl b9 rfl (Nat.le_refl 2) (by simp [Value.oneCell']) ?_
      intro w12 hb2 hg2 hs2
      (try simp only [Act.put, List.setIfInBounds_toArray, List.set_cons_zero, List.set_cons_succ])
      refine wpList_yield rfl _ (exec_assign _ rfl) ?_
      simp only [Act.put, Act.eval, Array.getD_eq_getD_getElem?, List.getElem?_toArray, List.getElem?_cons_succ, List.getElem?_cons_zero, Option.getD_some, List.setIfInBounds_toArray, List.set_cons_zero, List.set_cons_succ]
      refine wpList_nil ?_
      go_wp2_with fail
      (try simp only [Exit.inBlock, Exit.then])
      rw [splice_all _ _ (by rfl)] at hb2
      refine bodyPost_ret (ret_cell_tmp rfl at124 _ _ w.heap.size 124 _ rfl hb2 rfl) rfl ?_
      exact ⟨none, 0, 0, none, 0, 0, rfl, hnil _, hnil _, hb9.grown hg2 hb9.size (by intro k hk; cases hk; omega)⟩
set_option maxRecDepth 100000 in
set_option maxHeartbeats 8000000 in
theorem clash103 (A : Option Addr) (n c : Nat) (a : List (List UInt8)) (B : Option Addr) (m d : Nat) (b : List (List UInt8)) (w : World) (h1 : Hl w A n c a) (h2 : Hl w B m d b) :
    Calls Try.prog 103 #[.slice A n c, .slice B m d] w fun e w' => ∃ A1 n1 c1 A2 n2 c2, e = .returned (.tuple #[.agg #[.slice A1 n1 c1, .slice A2 n2 c2], .bool (clashes a b)]) ∧ Tx w' A1 n1 c1 (clashR a b).1 ∧ Tx w' A2 n2 c2 (clashR a b).2 ∧ Below w.heap.size w w' := by
  have bz : Blk (w.alloc (.cells #[.slice none 0 0, .slice none 0 0] 124)) w.heap.size 124 [.slice none 0 0, .slice none 0 0] := Blk.new w 124 [.slice none 0 0, .slice none 0 0]
  have hw0 : Below w.heap.size w (w.alloc (.cells #[.slice none 0 0, .slice none 0 0] 124)) := (Below.refl _ _).alloc (Nat.le_refl _) _
  have CS := fun (u : World) (hu : Below w.heap.size w u) => Lib.hid (sameL146 A n c a B m d b u (h1.below hu) (h2.below hu) (a == b) rfl)
  have CF := fun u => Lib.hid (crfirst_any u)
  have CA := fun (u : World) (hu : Below w.heap.size w u) => Lib.hid (rfold_any firstH A n c a u firstH_length (h1.below hu))
  have CB := fun (u : World) (hu : Below w.heap.size w u) => Lib.hid (rfold_any firstH B m d b u firstH_length (h2.below hu))
  rw [show shaL [4] = firstH from rfl] at CF
  have LA : Hid ((foldH firstH a).length = 32) := Lib.hid (foldH_length _ _ firstH_length)
  have LB : Hid ((foldH firstH b).length = 32) := Lib.hid (foldH_length _ _ firstH_length)
  have hnil : ∀ u : World, Tx u none 0 0 [] := fun u => ⟨rfl, Nat.le_refl _, Nat.zero_le _, Rd.nil _ _, fun _ _ h => h⟩
  by_cases hab : a = b
  · have e1 : (a == b) = true := by simp [hab]
    have e2 : clashes a b = false := by unfold clashes; rw [e1]; rfl
    have e3 : clashR a b = ([], []) := by unfold clashR; rw [e2]; rfl
    rw [e2, e3]
    rw [e1] at CS
    clear e1 e2 e3 hab CF CA CB LA LB
    go_enter Try.func103, Try.ntmps103
    go_upto_region 1 with fail
    generalize hW : World.alloc w _ = w0
    have h3 : Blk w0 w.heap.size 124 [.slice none 0 0, .slice none 0 0] ∧ Below w.heap.size w w0 := by rw [← hW]; exact ⟨bz, hw0⟩
    clear hW bz hw0
    obtain ⟨bz, hw0⟩ := h3
    refine wp_region_lit ?_
    refine wpList_yield rfl _ (exec_move _ rfl) ?_
    simp only [Act.put, Act.eval, Array.getD_eq_getD_getElem?, List.getElem?_toArray, List.getElem?_cons_succ, List.getElem?_cons_zero, Option.getD_some, List.setIfInBounds_toArray, List.set_cons_zero, List.set_cons_succ]
    refine wpList_yield rfl _ (exec_move _ rfl) ?_
    simp only [Act.put, Act.eval, Array.getD_eq_getD_getElem?, List.getElem?_toArray, List.getElem?_cons_succ, List.getElem?_cons_zero, Option.getD_some, List.setIfInBounds_toArray, List.set_cons_zero, List.set_cons_succ]
    refine wpList_plain rfl fun K hK => ?_; go_simp
    with_reducible refine (CS _ hw0).out.mono ?_
    rintro e w1 ⟨rfl, hw1⟩
    refine hK _ _ ?_; clear hK
    (try simp only [Act.put, List.setIfInBounds_toArray, List.set_cons_zero, List.set_cons_succ])
    refine wpList_yield rfl _ (exec_move _ rfl) ?_
    simp only [Act.put, Act.eval, Array.getD_eq_getD_getElem?, List.getElem?_toArray, List.getElem?_cons_succ, List.getElem?_cons_zero, Option.getD_some, List.setIfInBounds_toArray, List.set_cons_zero, List.set_cons_succ]
    refine wpList_skip_w rfl ?_
    simp only [Act.put, List.setIfInBounds_toArray, List.set_cons_zero, List.set_cons_succ]
    refine wpList_skip_w rfl ?_
    simp only [Act.put, List.setIfInBounds_toArray, List.set_cons_zero, List.set_cons_succ]
    refine wpList_skip_w rfl ?_
    simp only [Act.put, List.setIfInBounds_toArray, List.set_cons_zero, List.set_cons_succ]
    refine wpList_skip_w rfl ?_
    simp only [Act.put, List.setIfInBounds_toArray, List.set_cons_zero, List.set_cons_succ]
    refine wpList_skip_w rfl ?_
    simp only [Act.put, List.setIfInBounds_toArray, List.set_cons_zero, List.set_cons_succ]
    refine wpList_skip_w rfl ?_
    simp only [Act.put, List.setIfInBounds_toArray, List.set_cons_zero, List.set_cons_succ]
    refine wpList_skip_w rfl ?_
    simp only [Act.put, List.setIfInBounds_toArray, List.set_cons_zero, List.set_cons_succ]
    refine wpList_yield rfl ?vp7_11 ?yp7_11 ?_
    case yp7_11 => go_simp; try with_reducible rfl
    simp only [Act.put, List.setIfInBounds_toArray, List.set_cons_zero, List.set_cons_succ]
    refine wpList_nil ?_
    go_upto_region 2 with fail
    refine wp_region_lit ?_
    refine wpList_yield rfl _ (exec_build _ rfl #[.slice none 0 0, .slice none 0 0] (by kernel_rfl)) ?_
    simp only [Act.put, List.setIfInBounds_toArray, List.set_cons_zero, List.set_cons_succ]
    refine wpList_store_at at124.i rfl (.tmp 4) (.tmp 20) rfl w.heap.size 0 124 [.slice none 0 0, .slice none 0 0] [.slice none 0 0, .slice none 0 0] rfl rfl (bz.below hw1 bz.lt) rfl (Nat.le_refl 2) (by simp [Value.oneCell']) ?_
    intro w2 hb2 hg2 hs2
    (try simp only [Act.put, List.setIfInBounds_toArray, List.set_cons_zero, List.set_cons_succ])
    refine wpList_yield rfl _ (exec_assign _ rfl) ?_
    simp only [Act.put, Act.eval, Array.getD_eq_getD_getElem?, List.getElem?_toArray, List.getElem?_cons_succ, List.getElem?_cons_zero, Option.getD_some, List.setIfInBounds_toArray, List.set_cons_zero, List.set_cons_succ]
    refine wpList_nil ?_
    go_wp2_with fail
    (try simp only [Exit.inBlock, Exit.then])
    rw [splice_all _ _ (by rfl)] at hb2
    refine bodyPost_ret (ret_cell_tmp rfl at124 _ _ w.heap.size 124 _ rfl hb2 rfl) rfl ?_
    exact ⟨none, 0, 0, none, 0, 0, rfl, hnil _, hnil _, (bthen hw0 hw1 hw0.size).grown hg2 (Nat.le_trans hw0.size hw1.size) (by intro k hk; cases hk; omega)⟩
  · have e1 : (a == b) = false := by simp [hab]
    rw [e1] at CS
    by_cases hfo : foldH firstH a = foldH firstH b
    · have e2 : clashes a b = true := by unfold clashes; rw [e1, hfo]; simp
      have e3 : clashR a b = clashP a.length a b := by unfold clashR; rw [e2]; rfl
      rw [e2, e3]
      have hD : Hid ((foldH firstH a == foldH firstH b) = !false) := Lib.hid (by rw [hfo]; simp)
      have hst : ∀ (u : World), Blk u w.heap.size 124 [.slice none 0 0, .slice none 0 0] → Below w.heap.size w u → ClS w.heap.size w (clashP a.length a b) (.slice A n c) (.slice B m d) u := fun u x y => ⟨a, b, A, n, c, B, m, d, rfl, rfl, h1, h2, hab, hfo, rfl, x, y⟩
      clear e1 e2 e3 hab hfo h1 h2
      generalize clashP a.length a b = res at *
      generalize foldH firstH a = fa at *
      generalize foldH firstH b = fb at *
      generalize firstH = FH at CF CA CB
      unfold arr8 at *
      go_enter Try.func103, Try.ntmps103
      go_upto_region 1 with fail
      generalize hW : World.alloc w _ = w0
      have h3 : Blk w0 w.heap.size 124 [.slice none 0 0, .slice none 0 0] ∧ Below w.heap.size w w0 := by rw [← hW]; exact ⟨bz, hw0⟩
      clear hW bz hw0
      obtain ⟨bz, hw0⟩ := h3
      refine wp_region_lit ?_
      refine wpList_yield rfl _ (exec_move _ rfl) ?_
      simp only [Act.put, Act.eval, Array.getD_eq_getD_getElem?, List.getElem?_toArray, List.getElem?_cons_succ, List.getElem?_cons_zero, Option.getD_some, List.setIfInBounds_toArray, List.set_cons_zero, List.set_cons_succ]
      refine wpList_yield rfl _ (exec_move _ rfl) ?_
      simp only [Act.put, Act.eval, Array.getD_eq_getD_getElem?, List.getElem?_toArray, List.getElem?_cons_succ, List.getElem?_cons_zero, Option.getD_some, List.setIfInBounds_toArray, List.set_cons_zero, List.set_cons_succ]
      refine wpList_plain rfl fun K hK => ?_; go_simp
      with_reducible refine (CS _ hw0).out.mono ?_
      rintro e w1 ⟨rfl, hw1⟩
      have hB1 := bthen hw0 hw1 hw0.size
      refine hK _ _ ?_; clear hK
      (try simp only [Act.put, List.setIfInBounds_toArray, List.set_cons_zero, List.set_cons_succ])
      refine wpList_yield rfl _ (exec_move _ rfl) ?_
      simp only [Act.put, Act.eval, Array.getD_eq_getD_getElem?, List.getElem?_toArray, List.getElem?_cons_succ, List.getElem?_cons_zero, Option.getD_some, List.setIfInBounds_toArray, List.set_cons_zero, List.set_cons_succ]
      refine wpList_plain_w rfl fun K hK => ?_; go_simp
      with_reducible refine (CF _).out.mono ?_
      rintro e w2 ⟨rfl, hw2⟩
      have hB2 := bthen hB1 hw2 hB1.size
      refine hK _ _ ?_; clear hK
      (try simp only [Act.put, List.setIfInBounds_toArray, List.set_cons_zero, List.set_cons_succ])
      refine wpList_yield_w rfl _ (exec_move _ rfl) ?_
      simp only [Act.put, Act.eval, Array.getD_eq_getD_getElem?, List.getElem?_toArray, List.getElem?_cons_succ, List.getElem?_cons_zero, Option.getD_some, List.setIfInBounds_toArray, List.set_cons_zero, List.set_cons_succ]
      refine wpList_plain_w rfl fun K hK => ?_; go_simp
      with_reducible refine (CA _ hB2).out.mono ?_
      rintro e w3 ⟨rfl, hw3⟩
      have hB3 := bthen hB2 hw3 hB2.size
      refine hK _ _ ?_; clear hK
      (try simp only [Act.put, List.setIfInBounds_toArray, List.set_cons_zero, List.set_cons_succ])
      refine wpList_plain_w rfl fun K hK => ?_; go_simp
      with_reducible refine (CF _).out.mono ?_
      rintro e w4 ⟨rfl, hw4⟩
      have hB4 := bthen hB3 hw4 hB3.size
      refine hK _ _ ?_; clear hK
      (try simp only [Act.put, List.setIfInBounds_toArray, List.set_cons_zero, List.set_cons_succ])
      refine wpList_yield_w rfl _ (exec_move _ rfl) ?_
      simp only [Act.put, Act.eval, Array.getD_eq_getD_getElem?, List.getElem?_toArray, List.getElem?_cons_succ, List.getElem?_cons_zero, Option.getD_some, List.setIfInBounds_toArray, List.set_cons_zero, List.set_cons_succ]
      refine wpList_plain_w rfl fun K hK => ?_; go_simp
      with_reducible refine (CB _ hB4).out.mono ?_
      rintro e w5 ⟨rfl, hw5⟩
      have hB5 := bthen hB4 hw5 hB4.size
      refine hK _ _ ?_; clear hK
      (try simp only [Act.put, List.setIfInBounds_toArray, List.set_cons_zero, List.set_cons_succ])
      refine wpList_yield_w rfl _ (exec_neq_to ab25 _ _ rfl fa fb rfl rfl LA.out LB.out hD.out) ?_
      simp only [Act.put, List.setIfInBounds_toArray, List.set_cons_zero, List.set_cons_succ]
      refine wpList_yield rfl ?vp8_11 ?yp8_11 ?_
      case yp8_11 => go_simp; try with_reducible rfl
      simp only [Act.put, List.setIfInBounds_toArray, List.set_cons_zero, List.set_cons_succ]
      refine wpList_nil ?_
      have b9 := (((((bz.below hw1 bz.lt).below hw2 (bz.below hw1 bz.lt).lt).below hw3 ((bz.below hw1 bz.lt).below hw2 (bz.below hw1 bz.lt).lt).lt)).below (hw4.trans (hw5.mono hw4.size)) (((bz.below hw1 bz.lt).below hw2 (bz.below hw1 bz.lt).lt).below hw3 ((bz.below hw1 bz.lt).below hw2 (bz.below hw1 bz.lt).lt).lt).lt)
      have hb9 := hB5
      clear hB1 hB2 hB3 hB4 hB5 hw1 hw2 hw3 hw4 hw5 bz hw0 CS CF CA CB
      go_wp2_with fail
      go_loopw [0, 1] (fun v u wr => ClS w.heap.size w res v u wr) (fun v _ _ => sliceLen v)
      case atStart => exact hst _ b9 hb9
      case round =>
        clear hst b9 hb9
        obtain ⟨a, b, A, n, c, B, m, d, rfl, rfl, h1, h2, hab, hfo, hres, bz, hw0⟩ := hrel
        have T1 := fun (u : World) (hu : Below w.heap.size w u) => Lib.hid (step_txt A n c a u (h1.below hu))
        have T2 := fun (u : World) (hu : Below w.heap.size w u) => Lib.hid (step_txt B m d b u (h2.below hu))
        go_upto_region 3 with fail
        refine wp_region_lit ?_
        refine wpList_yield rfl _ (exec_move _ rfl) ?_
        simp only [Act.put, Act.eval, Array.getD_eq_getD_getElem?, List.getElem?_toArray, List.getElem?_cons_succ, List.getElem?_cons_zero, Option.getD_some, List.setIfInBounds_toArray, List.set_cons_zero, List.set_cons_succ]
        refine wpList_plain rfl fun K hK => ?_; go_simp
        with_reducible refine (T1 _ hw0).out.mono ?_
        rintro e w1 ⟨A1, c1, rfl, x1, f1, hw1⟩
        have hB1 := bthen hw0 hw1 hw0.size
        refine hK _ _ ?_; clear hK
        (try simp only [Act.put, List.setIfInBounds_toArray, List.set_cons_zero, List.set_cons_succ])
        refine wpList_yield rfl _ (exec_move _ rfl) ?_
        simp only [Act.put, Act.eval, Array.getD_eq_getD_getElem?, List.getElem?_toArray, List.getElem?_cons_succ, List.getElem?_cons_zero, Option.getD_some, List.setIfInBounds_toArray, List.set_cons_zero, List.set_cons_succ]
        refine wpList_plain rfl fun K hK => ?_; go_simp
        with_reducible refine (T2 _ hB1).out.mono ?_
        rintro e w2 ⟨A2, c2, rfl, x2, f2, hw2⟩
        have hB2 := bthen hB1 hw2 hB1.size
        refine hK _ _ ?_; clear hK
        (try simp only [Act.put, List.setIfInBounds_toArray, List.set_cons_zero, List.set_cons_succ])
        refine wpList_yield rfl _ (exec_assign _ rfl) ?_
        simp only [Act.put, Act.eval, Array.getD_eq_getD_getElem?, List.getElem?_toArray, List.getElem?_cons_succ, List.getElem?_cons_zero, Option.getD_some, List.setIfInBounds_toArray, List.set_cons_zero, List.set_cons_succ]
        refine wpList_yield rfl _ (exec_assign _ rfl) ?_
        simp only [Act.put, Act.eval, Array.getD_eq_getD_getElem?, List.getElem?_toArray, List.getElem?_cons_succ, List.getElem?_cons_zero, Option.getD_some, List.setIfInBounds_toArray, List.set_cons_zero, List.set_cons_succ]
        refine wpList_nil ?_
        have x1 := x1.below hw2
        have k1 : ∀ ad, A1 = some ad → ad.block ≠ w.heap.size := fun ad e q => by have h3 := f1 ad e; have h4 := bz.lt; omega
        have k2 : ∀ ad, A2 = some ad → ad.block ≠ w.heap.size := fun ad e q => by have h3 := f2 ad e; have h4 := bz.lt; have h5 := hw1.size; omega
        have bz := (bz.below hw1 bz.lt).below hw2 (bz.below hw1 bz.lt).lt
        clear T1 T2 hw1 hw2 hB1 hw0 f1 f2
        go_upto_region 4 with fail
        by_cases htx : txtH a = txtH b
        · obtain ⟨p1, p2, p3, p4⟩ := txt_eq a b h1.each h2.each hab htx
          have hstep := clash_step a b a.length rfl p1 htx
          rw [hres] at hstep
          rw [h1.len] at p1 p3 p4 hstep
          rw [h2.len] at p2 p3 p4 hstep
          have n1 : (n : Int) - 1 = ((n - 1 : Nat) : Int) := by omega
          have hc1 := h1.cap
          have hc2 := h2.cap
          have hm1 := h1.max
          have hm2 := h2.max
          unfold maxLen at hm1 hm2
          have HE : Hid ((txtH a == txtH b) = !false) := Lib.hid (by rw [htx]; simp)
          have g1 := h1.to (n - 1) (by omega)
          have g2 := h2.to (m - 1) (by omega)
          have HN : ∀ (u : World), Blk u w.heap.size 124 [.slice none 0 0, .slice none 0 0] → Below w.heap.size w u → ClS w.heap.size w res (.slice A (n - 1) c) (.slice B (m - 1) d) u := fun u x y => ⟨_, _, A, n - 1, c, B, m - 1, d, rfl, rfl, g1, g2, p3, p4, hstep.symm, x, y⟩
          have HNN := Lib.hid HN
          clear HN g1 g2 p3 p4 hstep hres hab hfo htx h1 h2 n1
          generalize txtH a = ta at *
          generalize txtH b = tb at *
          refine wp_region_lit ?_
          refine wpList_yield rfl _ (exec_move _ rfl) ?_
          simp only [Act.put, Act.eval, Array.getD_eq_getD_getElem?, List.getElem?_toArray, List.getElem?_cons_succ, List.getElem?_cons_zero, Option.getD_some, List.setIfInBounds_toArray, List.set_cons_zero, List.set_cons_succ]
          refine wpList_bytes_string bt rfl _ rfl A1 _ c1 rfl ta x1.rd x1.len ?_
          (try simp only [Act.put, List.setIfInBounds_toArray, List.set_cons_zero, List.set_cons_succ])
          refine wpList_yield rfl _ (exec_move _ rfl) ?_
          simp only [Act.put, Act.eval, Array.getD_eq_getD_getElem?, List.getElem?_toArray, List.getElem?_cons_succ, List.getElem?_cons_zero, Option.getD_some, List.setIfInBounds_toArray, List.set_cons_zero, List.set_cons_succ]
          refine wpList_bytes_string bt rfl _ rfl A2 _ c2 rfl tb x2.rd x2.len ?_
          (try simp only [Act.put, List.setIfInBounds_toArray, List.set_cons_zero, List.set_cons_succ])
          refine wpList_yield rfl _ (exec_sneq Try.underlying9 _ _ rfl ta tb rfl rfl HE.out) ?_
          simp only [Act.put, List.setIfInBounds_toArray, List.set_cons_zero, List.set_cons_succ]
          refine wpList_nil ?_
          obtain ⟨w3, hw3e⟩ : ∃ w3, w3 = w2 := ⟨_, rfl⟩
          rw [← hw3e] at hB2 bz x1 x2 ⊢
          have hB3 := hB2
          have bz3 := bz
          have y1 := x1
          have y2 := x2
          go_upto_region 6 with fail
          refine rg_begin (Any) [] [] [0, 1, 2, 3, 4, 5, 6, 7, 8, 9, 10, 11] 0 mixed (by kernel_rfl) (fun _ _ _ _ e hh => ⟨e.symm.trans hh.1, hh.2⟩) ?_
          simp only [pick, List.map_cons, List.map_nil, List.getD_cons_zero, List.getD_cons_succ]
          have hS : (Any) _ := any_at w3.drew
          refine rg_take (v := ?v9_0) rfl rfl hS ?y9_0 ?_
          case y9_0 => intro W hW; (try subst hW); go_simp; try with_reducible rfl
          simp only [Act.put, List.setIfInBounds_toArray, List.set_cons_zero, List.set_cons_succ]
          refine rg_take (v := ?v9_1) rfl rfl hS ?y9_1 ?_
          case y9_1 => intro W hW; (try subst hW); go_simp; try with_reducible rfl
          simp only [Act.put, List.setIfInBounds_toArray, List.set_cons_zero, List.set_cons_succ]
          refine rg_take rfl rfl hS (fun W hW => exec_len132 _ rfl A n c rfl) ?_
          simp only [Act.put, List.setIfInBounds_toArray, List.set_cons_zero, List.set_cons_succ]
          refine rg_take rfl rfl hS (fun W hW => exec_isub _ _ rfl _ _ (((n - 1 : Nat) : Int)) rfl rfl (by omega) (by omega)) ?_
          simp only [Act.put, List.setIfInBounds_toArray, List.set_cons_zero, List.set_cons_succ]
          refine rg_take rfl rfl hS (fun W hW => exec_slice_to st132 _ _ rfl A n c (n - 1) .i64 rfl rfl (by omega)) ?_
          simp only [Act.put, List.setIfInBounds_toArray, List.set_cons_zero, List.set_cons_succ]
          refine rg_take (v := ?v9_5) rfl rfl hS ?y9_5 ?_
          case y9_5 => intro W hW; (try subst hW); go_simp; try with_reducible rfl
          simp only [Act.put, List.setIfInBounds_toArray, List.set_cons_zero, List.set_cons_succ]
          refine rg_take (v := ?v9_6) rfl rfl hS ?y9_6 ?_
          case y9_6 => intro W hW; (try subst hW); go_simp; try with_reducible rfl
          simp only [Act.put, List.setIfInBounds_toArray, List.set_cons_zero, List.set_cons_succ]
          refine rg_take rfl rfl hS (fun W hW => exec_len132 _ rfl B m d rfl) ?_
          simp only [Act.put, List.setIfInBounds_toArray, List.set_cons_zero, List.set_cons_succ]
          refine rg_take rfl rfl hS (fun W hW => exec_isub _ _ rfl _ _ (((m - 1 : Nat) : Int)) rfl rfl (by omega) (by omega)) ?_
          simp only [Act.put, List.setIfInBounds_toArray, List.set_cons_zero, List.set_cons_succ]
          refine rg_take rfl rfl hS (fun W hW => exec_slice_to st132 _ _ rfl B m d (m - 1) .i64 rfl rfl (by omega)) ?_
          simp only [Act.put, List.setIfInBounds_toArray, List.set_cons_zero, List.set_cons_succ]
          refine rg_take (v := ?v9_10) rfl rfl hS ?y9_10 ?_
          case y9_10 => intro W hW; (try subst hW); go_simp; try with_reducible rfl
          simp only [Act.put, List.setIfInBounds_toArray, List.set_cons_zero, List.set_cons_succ]
          refine rg_take (v := ?v9_11) rfl rfl hS ?y9_11 ?_
          case y9_11 => intro W hW; (try subst hW); go_simp; try with_reducible rfl
          simp only [Act.put, List.setIfInBounds_toArray, List.set_cons_zero, List.set_cons_succ]
          refine rg_done (by kernel_rfl) ?_
          go_wp2_with fail
          go_roundw
          case rel => exact HNN.out _ bz3.drew hB3.drew
          case measure => simp only [sliceLen]; omega
        · have hr2 := clash_done a b a.length htx
          rw [hres] at hr2
          subst hr2
          have HE : Hid ((txtH a == txtH b) = !true) := Lib.hid (by simp only [Bool.not_true, beq_eq_false_iff_ne]; exact htx)
          clear htx hres hab hfo h1 h2
          obtain ⟨ta, hta⟩ : ∃ t, t = txtH a := ⟨_, rfl⟩
          obtain ⟨tb, htb⟩ : ∃ t, t = txtH b := ⟨_, rfl⟩
          rw [← hta] at HE x1
          rw [← htb] at HE x2
          have HTA := Lib.hid hta
          have HTB := Lib.hid htb
          clear hta htb
          refine wp_region_lit ?_
          refine wpList_yield rfl _ (exec_move _ rfl) ?_
          simp only [Act.put, Act.eval, Array.getD_eq_getD_getElem?, List.getElem?_toArray, List.getElem?_cons_succ, List.getElem?_cons_zero, Option.getD_some, List.setIfInBounds_toArray, List.set_cons_zero, List.set_cons_succ]
          refine wpList_bytes_string bt rfl _ rfl A1 _ c1 rfl ta x1.rd x1.len ?_
          (try simp only [Act.put, List.setIfInBounds_toArray, List.set_cons_zero, List.set_cons_succ])
          refine wpList_yield rfl _ (exec_move _ rfl) ?_
          simp only [Act.put, Act.eval, Array.getD_eq_getD_getElem?, List.getElem?_toArray, List.getElem?_cons_succ, List.getElem?_cons_zero, Option.getD_some, List.setIfInBounds_toArray, List.set_cons_zero, List.set_cons_succ]
          refine wpList_bytes_string bt rfl _ rfl A2 _ c2 rfl tb x2.rd x2.len ?_
          (try simp only [Act.put, List.setIfInBounds_toArray, List.set_cons_zero, List.set_cons_succ])
          refine wpList_yield rfl _ (exec_sneq Try.underlying9 _ _ rfl ta tb rfl rfl HE.out) ?_
          simp only [Act.put, List.setIfInBounds_toArray, List.set_cons_zero, List.set_cons_succ]
          refine wpList_nil ?_
          obtain ⟨w3, hw3e⟩ : ∃ w3, w3 = w2 := ⟨_, rfl⟩
          rw [← hw3e] at hB2 bz x1 x2 ⊢
          have hB3 := hB2
          have bz3 := bz
          have y1 := x1
          have y2 := x2
          go_upto_region 5 with fail
          refine wp_region_lit ?_
          refine wpList_yield rfl _ (exec_move _ rfl) ?_
          simp only [Act.put, Act.eval, Array.getD_eq_getD_getElem?, List.getElem?_toArray, List.getElem?_cons_succ, List.getElem?_cons_zero, Option.getD_some, List.setIfInBounds_toArray, List.set_cons_zero, List.set_cons_succ]
          refine wpList_yield rfl _ (exec_move _ rfl) ?_
          simp only [Act.put, Act.eval, Array.getD_eq_getD_getElem?, List.getElem?_toArray, List.getElem?_cons_succ, List.getElem?_cons_zero, Option.getD_some, List.setIfInBounds_toArray, List.set_cons_zero, List.set_cons_succ]
          refine wpList_yield rfl _ (exec_build _ rfl #[.slice A1 (txtN n) c1, .slice A2 (txtN m) c2] (by kernel_rfl)) ?_
          simp only [Act.put, List.setIfInBounds_toArray, List.set_cons_zero, List.set_cons_succ]
          refine wpList_store_at at124.i rfl (.tmp 4) (.tmp 32) rfl w.heap.size 0 124 [.slice none 0 0, .slice none 0 0] [.slice A1 (txtN n) c1, .slice A2 (txtN m) c2] rfl rfl bz3 rfl (Nat.le_refl 2) (by simp [Value.oneCell']) ?_
          intro w5 hb5 hg5 hs5
          (try simp only [Act.put, List.setIfInBounds_toArray, List.set_cons_zero, List.set_cons_succ])
          refine wpList_yield rfl _ (exec_assign _ rfl) ?_
          simp only [Act.put, Act.eval, Array.getD_eq_getD_getElem?, List.getElem?_toArray, List.getElem?_cons_succ, List.getElem?_cons_zero, Option.getD_some, List.setIfInBounds_toArray, List.set_cons_zero, List.set_cons_succ]
          refine wpList_nil ?_
          go_wp2_with fail
          (try simp only [Exit.inBlock, Exit.then])
          rw [splice_all _ _ (by rfl)] at hb5
          refine bodyPost_ret (ret_cell_tmp rfl at124 _ _ w.heap.size 124 _ rfl hb5 rfl) rfl ?_
          refine ⟨A1, txtN n, c1, A2, txtN m, c2, rfl, ?_, ?_, hB3.grown hg5 hB3.size (by intro k hk; cases hk; omega)⟩
          · exact (by rw [← HTA.out]; exact y1.grown hg5 k1)
          · exact (by rw [← HTB.out]; exact y2.grown hg5 k2)
    · have e2 : clashes a b = false := by unfold clashes; rw [e1]; simpa using hfo
      have e3 : clashR a b = ([], []) := by unfold clashR; rw [e2]; rfl
      rw [e2, e3]
      have hD : Hid ((foldH firstH a == foldH firstH b) = !true) := Lib.hid (by simpa using hfo)
      clear e1 e2 e3 hab hfo h1 h2
      generalize foldH firstH a = fa at *
      generalize foldH firstH b = fb at *
      generalize firstH = FH at CF CA CB
      unfold arr8 at *
      go_enter Try.func103, Try.ntmps103
      go_upto_region 1 with fail
      generalize hW : World.alloc w _ = w0
      have h3 : Blk w0 w.heap.size 124 [.slice none 0 0, .slice none 0 0] ∧ Below w.heap.size w w0 := by rw [← hW]; exact ⟨bz, hw0⟩
      clear hW bz hw0
      obtain ⟨bz, hw0⟩ := h3
      refine wp_region_lit ?_
      refine wpList_yield rfl _ (exec_move _ rfl) ?_
      simp only [Act.put, Act.eval, Array.getD_eq_getD_getElem?, List.getElem?_toArray, List.getElem?_cons_succ, List.getElem?_cons_zero, Option.getD_some, List.setIfInBounds_toArray, List.set_cons_zero, List.set_cons_succ]
      refine wpList_yield rfl _ (exec_move _ rfl) ?_
      simp only [Act.put, Act.eval, Array.getD_eq_getD_getElem?, List.getElem?_toArray, List.getElem?_cons_succ, List.getElem?_cons_zero, Option.getD_some, List.setIfInBounds_toArray, List.set_cons_zero, List.set_cons_succ]
      refine wpList_plain rfl fun K hK => ?_; go_simp
      with_reducible refine (CS _ hw0).out.mono ?_
      rintro e w1 ⟨rfl, hw1⟩
      have hB1 := bthen hw0 hw1 hw0.size
      refine hK _ _ ?_; clear hK
      (try simp only [Act.put, List.setIfInBounds_toArray, List.set_cons_zero, List.set_cons_succ])
      refine wpList_yield rfl _ (exec_move _ rfl) ?_
      simp only [Act.put, Act.eval, Array.getD_eq_getD_getElem?, List.getElem?_toArray, List.getElem?_cons_succ, List.getElem?_cons_zero, Option.getD_some, List.setIfInBounds_toArray, List.set_cons_zero, List.set_cons_succ]
      refine wpList_plain_w rfl fun K hK => ?_; go_simp
      with_reducible refine (CF _).out.mono ?_
      rintro e w2 ⟨rfl, hw2⟩
      have hB2 := bthen hB1 hw2 hB1.size
      refine hK _ _ ?_; clear hK
      (try simp only [Act.put, List.setIfInBounds_toArray, List.set_cons_zero, List.set_cons_succ])
      refine wpList_yield_w rfl _ (exec_move _ rfl) ?_
      simp only [Act.put, Act.eval, Array.getD_eq_getD_getElem?, List.getElem?_toArray, List.getElem?_cons_succ, List.getElem?_cons_zero, Option.getD_some, List.setIfInBounds_toArray, List.set_cons_zero, List.set_cons_succ]
      refine wpList_plain_w rfl fun K hK => ?_; go_simp
      with_reducible refine (CA _ hB2).out.mono ?_
      rintro e w3 ⟨rfl, hw3⟩
      have hB3 := bthen hB2 hw3 hB2.size
      refine hK _ _ ?_; clear hK
      (try simp only [Act.put, List.setIfInBounds_toArray, List.set_cons_zero, List.set_cons_succ])
      refine wpList_plain_w rfl fun K hK => ?_; go_simp
      with_reducible refine (CF _).out.mono ?_
      rintro e w4 ⟨rfl, hw4⟩
      have hB4 := bthen hB3 hw4 hB3.size
      refine hK _ _ ?_; clear hK
      (try simp only [Act.put, List.setIfInBounds_toArray, List.set_cons_zero, List.set_cons_succ])
      refine wpList_yield_w rfl _ (exec_move _ rfl) ?_
      simp only [Act.put, Act.eval, Array.getD_eq_getD_getElem?, List.getElem?_toArray, List.getElem?_cons_succ, List.getElem?_cons_zero, Option.getD_some, List.setIfInBounds_toArray, List.set_cons_zero, List.set_cons_succ]
      refine wpList_plain_w rfl fun K hK => ?_; go_simp
      with_reducible refine (CB _ hB4).out.mono ?_
      rintro e w5 ⟨rfl, hw5⟩
      have hB5 := bthen hB4 hw5 hB4.size
      refine hK _ _ ?_; clear hK
      (try simp only [Act.put, List.setIfInBounds_toArray, List.set_cons_zero, List.set_cons_succ])
      refine wpList_yield_w rfl _ (exec_neq_to ab25 _ _ rfl fa fb rfl rfl LA.out LB.out hD.out) ?_
      simp only [Act.put, List.setIfInBounds_toArray, List.set_cons_zero, List.set_cons_succ]
      refine wpList_yield rfl ?vp10_11 ?yp10_11 ?_
      case yp10_11 => go_simp; try with_reducible rfl
      simp only [Act.put, List.setIfInBounds_toArray, List.set_cons_zero, List.set_cons_succ]
      refine wpList_nil ?_
      have b9 := (((((bz.below hw1 bz.lt).below hw2 (bz.below hw1 bz.lt).lt).below hw3 ((bz.below hw1 bz.lt).below hw2 (bz.below hw1 bz.lt).lt).lt)).below (hw4.trans (hw5.mono hw4.size)) (((bz.below hw1 bz.lt).below hw2 (bz.below hw1 bz.lt).lt).below hw3 ((bz.below hw1 bz.lt).below hw2 (bz.below hw1 bz.lt).lt).lt).lt)
      have hb9 := hB5
      clear hB1 hB2 hB3 hB4 hB5 hw1 hw2 hw3 hw4 hw5 bz hw0 CS CF CA CB
      go_upto_region 2 with fail
      refine wp_region_lit ?_
      refine wpList_yield rfl _ (exec_build _ rfl #[.slice none 0 0, .slice none 0 0] (by kernel_rfl)) ?_
      simp only [Act.put, List.setIfInBounds_toArray, List.set_cons_zero, List.set_cons_succ]
      refine wpList_store_at at124.i rfl (.tmp 4) (.tmp 20) rfl w.heap.size 0 124 [.slice none 0 0, .slice none 0 0] [.slice none 0 0, .slice none 0 0] rfl rfl b9 rfl (Nat.le_refl 2) (by simp [Value.oneCell']) ?_
      intro w12 hb2 hg2 hs2
      (try simp only [Act.put, List.setIfInBounds_toArray, List.set_cons_zero, List.set_cons_succ])
      refine wpList_yield rfl _ (exec_assign _ rfl) ?_
      simp only [Act.put, Act.eval, Array.getD_eq_getD_getElem?, List.getElem?_toArray, List.getElem?_cons_succ, List.getElem?_cons_zero, Option.getD_some, List.setIfInBounds_toArray, List.set_cons_zero, List.set_cons_succ]
      refine wpList_nil ?_
      go_wp2_with fail
      (try simp only [Exit.inBlock, Exit.then])
      rw [splice_all _ _ (by rfl)] at hb2
      refine bodyPost_ret (ret_cell_tmp rfl at124 _ _ w.heap.size 124 _ rfl hb2 rfl) rfl ?_
      exact ⟨none, 0, 0, none, 0, 0, rfl, hnil _, hnil _, hb9.grown hg2 hb9.size (by intro k hk; cases hk; omega)⟩
end Go.Proofs.Ytehbahobkgoapaa
