/- Words of 32 bits: the operations on them, arrays of them; the constants of SHA-256. -/
import Derived.Test.YtehbahobkgoapaaWa
namespace Go.Proofs.Ytehbahobkgoapaa
open Go Go.RowKit
set_option linter.unusedSimpArgs false
set_option linter.unusedVariables false

/-- A word as a value; words as cells. -/
def wv (n : Nat) : Value := .int .u32 (n : Int)
def wvs (l : List Nat) : List Value := l.map wv
theorem wvs_length (l : List Nat) : (wvs l).length = l.length := by simp [wvs]
theorem wvs_get (l : List Nat) (i : Nat) : (wvs l)[i]? = (l[i]?).map wv := by simp [wvs]
theorem wvs_one (l : List Nat) : ∀ u ∈ wvs l, u.oneCell' = true := by
  intro u hu
  obtain ⟨n, _, rfl⟩ := List.mem_map.1 hu
  rfl
theorem wvs_append (l m : List Nat) : wvs (l ++ m) = wvs l ++ wvs m := by simp [wvs]
theorem wvs_set (l : List Nat) (i n : Nat) : (wvs l).set i (wv n) = wvs (l.set i n) := by simp [wvs, List.map_set]
theorem wvs_take (l : List Nat) (n : Nat) : (wvs l).take n = wvs (l.take n) := by simp [wvs, List.map_take]
theorem wvs_drop (l : List Nat) (n : Nat) : (wvs l).drop n = wvs (l.drop n) := by simp [wvs, List.map_drop]
def arrW (l : List Nat) : Value := .agg (wvs l).toArray

theorem or_lt32 {a b : Nat} (ha : a < 4294967296) (hb : b < 4294967296) : a ||| b < 4294967296 := Nat.or_lt_two_pow (n := 32) ha hb
theorem not_lt32 (a : Nat) : 4294967295 - a < 4294967296 := by omega
theorem mod_lt32 (a : Nat) : a % 4294967296 < 4294967296 := Nat.mod_lt _ (by decide)
theorem u8_w32 (x : UInt8) : x.toNat < 4294967296 := by have := x.toNat_lt; omega

theorem ones_xor (m : Nat) (hm : m < 4294967296) : 4294967295 ^^^ m = 4294967295 - m := by
  apply Nat.eq_of_testBit_eq
  intro i
  have h1 : (4294967295 : Nat).testBit i = decide (i < 32) := Nat.testBit_two_pow_sub_one 32 i
  have h2 : (4294967295 - m).testBit i = (decide (i < 32) && !m.testBit i) := by
    have := Nat.testBit_two_pow_sub_succ (n := 32) hm i
    rw [← this]
    congr 1
    omega
  rw [Nat.testBit_xor, h1, h2]
  by_cases hi : i < 32
  · simp [hi]
  · have : m.testBit i = false := Nat.testBit_lt_two_pow (Nat.lt_of_lt_of_le hm (show 2 ^ 32 ≤ 2 ^ i from Nat.pow_le_pow_right (by omega) (by omega)))
    simp [hi, this]
section
variable {P : Program} {w : World} {a : Act} {o : Oper} {t t' : TypeId}
theorem exec_wxor (x y : Operand) (ho : o.op = .binOp .xor t x y t') (m n : Nat) (hx : a.eval x = .int .u32 (m : Int)) (hy : a.eval y = .int .u32 (n : Int)) (hm : m < 4294967296) (hn : n < 4294967296) :
    (execOp a.eval o).run P w = .ok (.value (.int .u32 ((m ^^^ n : Nat) : Int))) w := by
  unfold execOp
  simp only [ho, hx, hy]
  go_simp
  rw [u32_xor_nat _ _ hm hn]
theorem exec_wand (x y : Operand) (ho : o.op = .binOp .and t x y t') (m n : Nat) (hx : a.eval x = .int .u32 (m : Int)) (hy : a.eval y = .int .u32 (n : Int)) (hm : m < 4294967296) (hn : n < 4294967296) :
    (execOp a.eval o).run P w = .ok (.value (.int .u32 ((m &&& n : Nat) : Int))) w := by
  unfold execOp
  simp only [ho, hx, hy]
  go_simp
  rw [u32_and_nat _ _ hm hn]
theorem exec_wor (x y : Operand) (ho : o.op = .binOp .or t x y t') (m n : Nat) (hx : a.eval x = .int .u32 (m : Int)) (hy : a.eval y = .int .u32 (n : Int)) (hm : m < 4294967296) (hn : n < 4294967296) :
    (execOp a.eval o).run P w = .ok (.value (.int .u32 ((m ||| n : Nat) : Int))) w := by
  unfold execOp
  simp only [ho, hx, hy]
  go_simp
  rw [u32_or_nat _ _ hm hn]
theorem exec_wadd (x y : Operand) (ho : o.op = .binOp .add t x y t') (m n : Nat) (hx : a.eval x = .int .u32 (m : Int)) (hy : a.eval y = .int .u32 (n : Int)) :
    (execOp a.eval o).run P w = .ok (.value (.int .u32 ((ad m n : Nat) : Int))) w := by
  unfold execOp
  simp only [ho, hx, hy]
  go_simp
  have e : IntKind.u32.wrap ((m : Int) + n) = ((ad m n : Nat) : Int) := by
    rw [IntKind.wrap_u32']
    unfold ad
    omega
  simpa [IntKind.wrap_u32'] using e
theorem exec_wnot (x : Operand) (ho : o.op = .unOp .xor t x) (m : Nat) (hx : a.eval x = .int .u32 (m : Int)) (hm : m < 4294967296) :
    (execOp a.eval o).run P w = .ok (.value (.int .u32 ((4294967295 - m : Nat) : Int))) w := by
  unfold execOp
  simp only [ho, hx]
  go_simp
  have e := u32_xor_nat 4294967295 m (by decide) hm
  rw [ones_xor m hm] at e
  exact e
theorem exec_wshr (x y : Operand) (ho : o.op = .binOp .shr t x y t') (m s : Nat) (k : IntKind) (hx : a.eval x = .int .u32 (m : Int)) (hy : a.eval y = .int k (s : Int)) (hs : s ≤ 32) (d : Nat) (hd : 2 ^ s = d) :
    (execOp a.eval o).run P w = .ok (.value (.int .u32 ((m / d : Nat) : Int))) w := by
  subst hd
  have h0 : (0 : Int) ≤ (s : Int) := by omega
  have h1 : (s : Int) ≤ 32 := by omega
  unfold execOp
  simp only [ho, hx, hy]
  go_simp
theorem exec_wshl (x y : Operand) (ho : o.op = .binOp .shl t x y t') (m s : Nat) (k : IntKind) (hx : a.eval x = .int .u32 (m : Int)) (hy : a.eval y = .int k (s : Int)) (hs : s ≤ 32) (d : Nat) (hd : 2 ^ s = d) :
    (execOp a.eval o).run P w = .ok (.value (.int .u32 ((m * d % 4294967296 : Nat) : Int))) w := by
  subst hd
  have h0 : (0 : Int) ≤ (s : Int) := by omega
  have h1 : (s : Int) ≤ 32 := by omega
  have e := u32_wrap_shl m s
  unfold execOp
  simp only [ho, hx, hy]
  go_simp
  try simpa [IntKind.wrap_u32'] using e
theorem exec_build (parts : Array (Nat × Operand)) (ho : o.op = .build t parts) (cells : Array Value) (h : P.built t (parts.map fun (i, x) => (i, a.eval x)).toList = some cells) :
    (execOp a.eval o).run P w = .ok (.value (.agg cells)) w := by
  unfold execOp
  simp only [ho, Sem.run_bind, run_build w t _ cells h, Result.andThen_ok]
  rfl
end
section
variable {P : Program} {w : World} {a : Act} {o : Oper} {t t' : TypeId}
theorem exec_load_one {d : TypeDesc} (hu : P.underlying t = some d) (hd : d.isRow = false) (x : Operand) (ho : o.op = .load t x) (ad : Addr) (v : Value) (hx : a.eval x = .pointer (some ad)) (hc : w.cell? ad = some v) :
    (execOp a.eval o).run P w = .ok (.value v) w := by
  have hagg : (isAgg t).run P w = .ok false w := by
    unfold isAgg
    rw [Sem.run_bind, run_underlying hu w]
    cases d <;> simp_all [TypeDesc.isRow]
  unfold execOp
  simp only [ho, hx, Instr.loadAt, Instr.sureAddr, Sem.run_bind, Sem.run_pure, Result.andThen_ok, loadVar, hagg, Bool.false_eq_true, if_false, run_load, hc]
/-- A word of a block. -/
theorem exec_wload (hu : ∃ d, P.underlying t = some d ∧ d.isRow = false) (x : Operand) (ho : o.op = .load t x) (g i t1 : Nat) (l : List Nat) (n : Nat) (hx : a.eval x = .pointer (some ⟨g, i, none⟩)) (hb : Blk w g t1 (wvs l)) (e : l[i]? = some n) :
    (execOp a.eval o).run P w = .ok (.value (.int .u32 (n : Int))) w := by
  have hc : w.cell? ⟨g, i, none⟩ = some (.int .u32 (n : Int)) := by rw [hb.cell, wvs_get, e]; rfl
  obtain ⟨d, hu, hd⟩ := hu
  exact exec_load_one hu hd x ho _ _ hx hc
end
theorem w94 : ∃ d, Try.prog.underlying 94 = some d ∧ d.isRow = false := ⟨_, Try.underlying94, rfl⟩
/-- A byte of a block, as a word. -/
theorem at96 : AT Try.prog 96 8 := ⟨⟨_, Try.underlying96, rfl⟩, by kernel_rfl⟩
theorem at97 : AT Try.prog 97 64 := ⟨⟨_, Try.underlying97, rfl⟩, by kernel_rfl⟩
theorem at176 : AT Try.prog 176 64 := ⟨⟨_, Try.underlying176, rfl⟩, by kernel_rfl⟩

def zw (n : Nat) : List Nat := List.replicate n 0
theorem zw_length (n : Nat) : (zw n).length = n := by simp [zw]
theorem splice_all {α : Type} (L vs : List α) (h : L.length = vs.length) : splice L 0 vs = vs := by
  unfold splice
  rw [List.drop_eq_nil_of_le (by omega)]
  simp
set_option maxRecDepth 100000 in
set_option maxHeartbeats 1000000 in
theorem begin_any (w : World) : Calls Try.prog 141 #[] w fun e w' => e = .returned (arrW shaH) ∧ Below w.heap.size w w' := by
  have hb : Blk (w.alloc (.cells (wvs (zw 8)).toArray 96)) w.heap.size 96 (wvs (zw 8)) := Blk.new _ _ _
  have hw : Below w.heap.size w (w.alloc (.cells (wvs (zw 8)).toArray 96)) := (Below.refl _ _).alloc (Nat.le_refl _) _
  unfold arrW
  go_enter Try.func141, Try.ntmps141
  go_wp2_with (first
    | ((with_reducible refine at_dst 1 ?_); refine wpList_yield rfl _ (exec_build _ rfl (wvs shaH).toArray (by kernel_rfl)) ?_)
    | ((with_reducible refine at_op (Op.store 96 (.tmp 0) (.tmp 1)) ?_); refine wpList_store_at at96.i rfl (.tmp 0) (.tmp 1) rfl w.heap.size 0 96 (wvs (zw 8)) (wvs shaH) rfl rfl hb (by rw [wvs_length]; rfl) (by rw [wvs_length]; decide) (wvs_one _) ?_; intro w1 hb1 hg1 hs1))
  try simp only [Exit.inBlock, Exit.then]
  rw [splice_all _ _ (by rw [wvs_length, wvs_length]; rfl)] at hb1
  refine bodyPost_ret (ret_cell rfl at96 _ _ w.heap.size 96 (wvs shaH) rfl hb1 (by rw [wvs_length]; rfl)) rfl ?_
  exact ⟨rfl, hw.grown hg1 hw.size (by intro k hk; cases hk; omega)⟩
set_option maxRecDepth 100000 in
set_option maxHeartbeats 1000000 in
theorem constants_any (w : World) : Calls Try.prog 136 #[] w fun e w' => e = .returned (arrW shaK) ∧ Below w.heap.size w w' := by
  have hb : Blk (w.alloc (.cells (wvs (zw 64)).toArray 176)) w.heap.size 176 (wvs (zw 64)) := Blk.new _ _ _
  have hw : Below w.heap.size w (w.alloc (.cells (wvs (zw 64)).toArray 176)) := (Below.refl _ _).alloc (Nat.le_refl _) _
  unfold arrW
  go_enter Try.func136, Try.ntmps136
  go_wp2_with (first
    | ((with_reducible refine at_dst 1 ?_); refine wpList_yield rfl _ (exec_build _ rfl (wvs shaK).toArray (by kernel_rfl)) ?_)
    | ((with_reducible refine at_op (Op.store 176 (.tmp 0) (.tmp 1)) ?_); refine wpList_store_at at176.i rfl (.tmp 0) (.tmp 1) rfl w.heap.size 0 176 (wvs (zw 64)) (wvs shaK) rfl rfl hb (by rw [wvs_length]; rfl) (by rw [wvs_length, zw_length]; decide) (wvs_one _) ?_; intro w1 hb1 hg1 hs1))
  try simp only [Exit.inBlock, Exit.then]
  rw [splice_all _ _ (by rw [wvs_length, wvs_length]; rfl)] at hb1
  refine bodyPost_ret (ret_cell rfl at176 _ _ w.heap.size 176 (wvs shaK) rfl hb1 (by rw [wvs_length]; rfl)) rfl ?_
  exact ⟨rfl, hw.grown hg1 hw.size (by intro k hk; cases hk; omega)⟩
set_option maxRecDepth 100000 in
set_option maxHeartbeats 1000000 in
theorem rconstants_any (w : World) : Calls Try.prog 139 #[] w fun e w' => e = .returned (arrW shaK) ∧ Below w.heap.size w w' := by
  have hb : Blk (w.alloc (.cells (wvs (zw 64)).toArray 176)) w.heap.size 176 (wvs (zw 64)) := Blk.new _ _ _
  have hw : Below w.heap.size w (w.alloc (.cells (wvs (zw 64)).toArray 176)) := (Below.refl _ _).alloc (Nat.le_refl _) _
  unfold arrW
  go_enter Try.func139, Try.ntmps139
  go_wp2_with (first
    | ((with_reducible refine at_dst 1 ?_); refine wpList_yield rfl _ (exec_build _ rfl (wvs shaK).toArray (by kernel_rfl)) ?_)
    | ((with_reducible refine at_op (Op.store 176 (.tmp 0) (.tmp 1)) ?_); refine wpList_store_at at176.i rfl (.tmp 0) (.tmp 1) rfl w.heap.size 0 176 (wvs (zw 64)) (wvs shaK) rfl rfl hb (by rw [wvs_length]; rfl) (by rw [wvs_length, zw_length]; decide) (wvs_one _) ?_; intro w1 hb1 hg1 hs1))
  try simp only [Exit.inBlock, Exit.then]
  rw [splice_all _ _ (by rw [wvs_length, wvs_length]; rfl)] at hb1
  refine bodyPost_ret (ret_cell rfl at176 _ _ w.heap.size 176 (wvs shaK) rfl hb1 (by rw [wvs_length]; rfl)) rfl ?_
  exact ⟨rfl, hw.grown hg1 hw.size (by intro k hk; cases hk; omega)⟩
end Go.Proofs.Ytehbahobkgoapaa
