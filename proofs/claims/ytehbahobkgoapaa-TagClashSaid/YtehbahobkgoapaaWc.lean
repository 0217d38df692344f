/- Laws of the walk for arrays of words: places, sums and products of places, a store of one cell. -/
import Derived.Test.YtehbahobkgoapaaWb
namespace Go.Proofs.Ytehbahobkgoapaa
open Go Go.RowKit
set_option linter.unusedSimpArgs false
set_option linter.unusedVariables false

/-- T is an array of n elements of one cell. -/
structure IA (P : Program) (T n : Nat) : Prop where
  u : ∃ e, P.underlying T = some (.array n e) ∧ (P.info? e).map (·.size) = some 1
theorem ia96 : IA Try.prog 96 8 := ⟨⟨_, Try.underlying96, by kernel_rfl⟩⟩
theorem ia97 : IA Try.prog 97 64 := ⟨⟨_, Try.underlying97, by kernel_rfl⟩⟩
theorem ia176 : IA Try.prog 176 64 := ⟨⟨_, Try.underlying176, by kernel_rfl⟩⟩
theorem add_none (g o i : Nat) : (⟨g, o, none⟩ : Addr).add i = ⟨g, o + i, none⟩ := by
  unfold Addr.add
  split
  · next h => subst h; rfl
  · rfl

section
variable {P : Program} {w : World} {a : Act} {o : Oper} {t t' : TypeId}
theorem exec_ia {n : Nat} (B : IA P t n) (x y : Operand) (ho : o.op = .indexAddr t x y) (g off i : Nat) (k : IntKind) (hx : a.eval x = .pointer (some ⟨g, off, none⟩)) (hy : a.eval y = .int k (i : Int)) (hi : i < n) :
    (execOp a.eval o).run P w = .ok (.value (.pointer (some ⟨g, off + i, none⟩))) w := by
  obtain ⟨e, hu, hs⟩ := B.u
  have he : P.elem t = e := by simp [Program.elem, hu]
  have hl : P.arrayLen t = n := by simp [Program.arrayLen, hu]
  have hz : (sizeOf e).run P w = .ok 1 w := by
    cases hq : P.info? e with
    | none => simp [hq] at hs
    | some j =>
      simp [hq] at hs
      simp [sizeOf, typeInfo, hq, hs]
  have hr := run_indexAt_array (P := P) w t ⟨g, off, none⟩ k (i : Int) (by rw [he, hl]; exact hu)
  rw [hl, he, if_pos (by omega), hz] at hr
  simp only [Result.andThen_ok, Int.toNat_natCast, Nat.mul_one, add_none] at hr
  unfold execOp
  simp only [ho, hx, hy, Sem.run_bind, hr, Result.andThen_ok, Sem.run_pure]
theorem exec_ia0 {n : Nat} (B : IA P t n) (x y : Operand) (ho : o.op = .indexAddr t x y) (g i : Nat) (k : IntKind) (hx : a.eval x = .pointer (some ⟨g, 0, none⟩)) (hy : a.eval y = .int k (i : Int)) (hi : i < n) :
    (execOp a.eval o).run P w = .ok (.value (.pointer (some ⟨g, i, none⟩))) w := by
  have := exec_ia (w := w) B x y ho g 0 i k hx hy hi
  rwa [Nat.zero_add] at this
theorem exec_iadd (x y : Operand) (ho : o.op = .binOp .add t x y t') (m n r : Int) (hx : a.eval x = .int .i64 m) (hy : a.eval y = .int .i64 n) (hr : m + n = r) (h1 : -9223372036854775808 ≤ r ∧ r ≤ 9223372036854775807) :
    (execOp a.eval o).run P w = .ok (.value (.int .i64 r)) w := by
  subst hr
  have e : IntKind.i64.wrap (m + n) = m + n := IntWalk.i64_in _ h1
  unfold execOp
  simp only [ho, hx, hy]
  go_simp
  try first | exact congrArg (fun z => Result.ok (Next.value (Value.int .i64 z)) w) e | exact e
theorem exec_isub (x y : Operand) (ho : o.op = .binOp .sub t x y t') (m n r : Int) (hx : a.eval x = .int .i64 m) (hy : a.eval y = .int .i64 n) (hr : m - n = r) (h1 : -9223372036854775808 ≤ r ∧ r ≤ 9223372036854775807) :
    (execOp a.eval o).run P w = .ok (.value (.int .i64 r)) w := by
  subst hr
  have e : IntKind.i64.wrap (m - n) = m - n := IntWalk.i64_in _ h1
  unfold execOp
  simp only [ho, hx, hy]
  go_simp
  try first | exact congrArg (fun z => Result.ok (Next.value (Value.int .i64 z)) w) e | exact e
theorem exec_imul (x y : Operand) (ho : o.op = .binOp .mul t x y t') (m n r : Int) (hx : a.eval x = .int .i64 m) (hy : a.eval y = .int .i64 n) (hr : m * n = r) (h1 : -9223372036854775808 ≤ r ∧ r ≤ 9223372036854775807) :
    (execOp a.eval o).run P w = .ok (.value (.int .i64 r)) w := by
  subst hr
  have e : IntKind.i64.wrap (m * n) = m * n := IntWalk.i64_in _ h1
  unfold execOp
  simp only [ho, hx, hy]
  go_simp
  try first | exact congrArg (fun z => Result.ok (Next.value (Value.int .i64 z)) w) e | exact e
theorem exec_move (x : Operand) (ho : o.op = .move x) : (execOp a.eval o).run P w = .ok (.value (a.eval x)) w := by
  unfold execOp
  simp only [ho]
  rfl
theorem exec_assign (x : Operand) (ho : o.op = .assign x) : (execOp a.eval o).run P w = .ok (.value (a.eval x)) w := by
  unfold execOp
  simp only [ho]
  rfl
/-- A byte of a block. -/
theorem exec_bload (hu : ∃ d, P.underlying t = some d ∧ d.isRow = false) (x : Operand) (ho : o.op = .load t x) (g i t1 : Nat) (l : List UInt8) (n : UInt8) (hx : a.eval x = .pointer (some ⟨g, i, none⟩)) (hb : Blk w g t1 (bvs l)) (e : l[i]? = some n) :
    (execOp a.eval o).run P w = .ok (.value (.int .u8 (n.toNat : Int))) w := by
  have hc : w.cell? ⟨g, i, none⟩ = some (.int .u8 (n.toNat : Int)) := by rw [hb.cell, bvs_get, e]; rfl
  obtain ⟨d, hu, hd⟩ := hu
  exact exec_load_one hu hd x ho _ _ hx hc
/-- A byte as a word. -/
theorem exec_cast {d : TypeDesc} (hs : P.underlying t = some d) (hd : P.underlying t' = some (.int .u32)) (x : Operand) (ho : o.op = .convert t t' x) (n : Nat) (hx : a.eval x = .int .u8 (n : Int)) (hn : n < 4294967296) :
    (execOp a.eval o).run P w = .ok (.value (.int .u32 (n : Int))) w := by
  have hk : P.intKind t' = .u32 := by simp [Program.intKind, hd]
  have hr := run_convert_int (P := P) w t t' .u8 (n : Int) (by rw [hs]; rfl) (by rw [hk]; exact hd)
  have e : IntKind.u32.wrap (n : Int) = (n : Int) := by rw [IntKind.wrap_u32']; omega
  rw [hk, e] at hr
  unfold execOp
  simp only [ho, hx, Sem.run_bind, hr, Result.andThen_ok, Sem.run_pure]

/-- One cell is stored in a block. -/
theorem wp_store_one {K : Act → World → Prop} {Q : Exit → Act → World → Prop} (hi : (P.info? t).map (·.size) = some 1) (x y : Operand) (ho : o.op = .store t x y) (g i t1 : Nat) (cs : List Value) (v : Value)
    (hx : a.eval x = .pointer (some ⟨g, i, none⟩)) (hy : a.eval y = v) (h1 : v.oneCell' = true) (hb : Blk w g t1 cs) (hf : i < cs.length)
    (h : K (a.put o.dst undef) (w.setCell ⟨g, i, none⟩ v)) : o.wp P a w K Q := by
  have hv : v.cells = #[v] := by cases v <;> first | rfl | (simp [Value.oneCell'] at h1)
  have hc : w.cell? ⟨g, i, none⟩ = some cs[i] := by rw [hb.cell, List.getElem?_eq_getElem hf]
  have hfr : w.frozen? ⟨g, i, none⟩ = false := hb.free i
  have e : (Instr.storeAt t (.pointer (some ⟨g, i, none⟩)) v).run P w = .ok () (w.setCell ⟨g, i, none⟩ v) := by
    cases hq : P.info? t with
    | none => simp [hq] at hi
    | some j =>
      have hs : j.size = 1 := by simpa [hq] using hi
      have hst : (store (⟨g, i, none⟩ : Addr) v).run P w = .ok () (w.setCell ⟨g, i, none⟩ v) := by rw [run_store P w _ v _ h1, hc, hfr]; rfl
      simp [Instr.storeAt, Instr.sureAddr, storeVar, sizeOf, typeInfo, hq, hs, hv, storeCells, Addr.add, hst]
  unfold Oper.wp execOp
  simp only [ho, hx, hy, Sem.run_bind, Sem.run_pure, Result.andThen_ok, e]
  exact h
theorem wpList_store_one {ops : Array Oper} {rest : List Oper} {Q : Exit → Act → World → Prop} (hgd : o.guard = none) (hi : (P.info? t).map (·.size) = some 1) (x y : Operand) (ho : o.op = .store t x y) (g i t1 : Nat) (cs : List Value) (v : Value)
    (hx : a.eval x = .pointer (some ⟨g, i, none⟩)) (hy : a.eval y = v) (h1 : v.oneCell' = true) (hb : Blk w g t1 cs) (hf : i < cs.length)
    (h : wpList P ops Q rest (a.put o.dst undef) (w.setCell ⟨g, i, none⟩ v)) : wpList P ops Q (o :: rest) a w :=
  wpList_plain hgd fun _ hK => wp_store_one hi x y ho g i t1 cs v hx hy h1 hb hf (hK _ _ h)
theorem Blk.setw {g t1 i n : Nat} {l : List Nat} (hb : Blk w g t1 (wvs l)) : Blk (w.setCell ⟨g, i, none⟩ (.int .u32 (n : Int))) g t1 (wvs (l.set i n)) := by
  rw [← wvs_set]
  exact hb.set_ i (wv n)
end
theorem one94 : (Try.prog.info? 94).map (·.size) = some 1 := by kernel_rfl
theorem w5 : ∃ d, Try.prog.underlying 5 = some d ∧ d.isRow = false := ⟨_, Try.underlying5, rfl⟩
end Go.Proofs.Ytehbahobkgoapaa
