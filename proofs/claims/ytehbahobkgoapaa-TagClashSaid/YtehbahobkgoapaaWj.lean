/- Laws of the walk for a state's block: its fields, slices of an array in a block, an element of an array value. What it is that a state holds a text. -/
import Derived.Test.YtehbahobkgoapaaWh
namespace Go.Proofs.Ytehbahobkgoapaa
open Go Go.RowKit
set_option linter.unusedSimpArgs false
set_option linter.unusedVariables false
section
variable {P : Program} {w : World} {a : Act} {o : Oper} {t t' : TypeId}
theorem exec_nilck (x : Operand) (ho : o.op = .nilCheck x) (ad : Addr) (hx : a.eval x = .pointer (some ad)) :
    (execOp a.eval o).run P w = .ok (.value (.pointer (some ad))) w := by
  unfold execOp
  simp only [ho, hx]
  go_simp
/-- 'a[l:]' of an array in a block. -/
theorem exec_arr_from {n : Nat} (B : IA P t n) (x lo : Operand) (ho : o.op = .slice t x (some lo) none none) (g off l : Nat) (k : IntKind) (hx : a.eval x = .pointer (some ⟨g, off, none⟩)) (hl : a.eval lo = .int k (l : Int)) (hb : l < n) :
    (execOp a.eval o).run P w = .ok (.value (.slice (some ⟨g, off + l, none⟩) (n - l) (n - l))) w := by
  obtain ⟨e, hu, hs⟩ := B.u
  have he : P.elem t = e := by simp [Program.elem, hu]
  have hn : P.arrayLen t = n := by simp [Program.arrayLen, hu]
  have hz : (sizeOf e).run P w = .ok 1 w := by
    cases hq : P.info? e with
    | none => simp [hq] at hs
    | some j =>
      simp [hq] at hs
      simp [sizeOf, typeInfo, hq, hs]
  have hr := run_sliceAt_array_l (P := P) w t ⟨g, off, none⟩ (by rw [he, hn]; exact hu) k (l : Int) (by omega) (by rw [hn]; omega)
  rw [hn, he, hz] at hr
  simp only [Result.andThen_ok, Int.toNat_natCast, slicedAt, Nat.mul_one] at hr
  rw [if_neg (by omega), add_none] at hr
  unfold execOp
  simp only [ho, hx, Option.map_some, hl, Option.map_none, Sem.run_bind, hr, Result.andThen_ok, Sem.run_pure]
/-- 'a[:]'. -/
theorem exec_arr_all {n : Nat} (B : IA P t n) (x : Operand) (ho : o.op = .slice t x none none none) (g off : Nat) (hx : a.eval x = .pointer (some ⟨g, off, none⟩)) :
    (execOp a.eval o).run P w = .ok (.value (.slice (some ⟨g, off, none⟩) n n)) w := by
  obtain ⟨e, hu, hs⟩ := B.u
  have he : P.elem t = e := by simp [Program.elem, hu]
  have hn : P.arrayLen t = n := by simp [Program.arrayLen, hu]
  have hz : (sizeOf e).run P w = .ok 1 w := by
    cases hq : P.info? e with
    | none => simp [hq] at hs
    | some j =>
      simp [hq] at hs
      simp [sizeOf, typeInfo, hq, hs]
  have hr := run_sliceAt_array_all (P := P) w t ⟨g, off, none⟩ (by rw [he, hn]; exact hu)
  rw [hn, he, hz] at hr
  simp only [Result.andThen_ok, slicedAt, Nat.zero_mul, Nat.sub_zero] at hr
  have e0 : (if n = 0 then (⟨g, off, none⟩ : Addr) else (⟨g, off, none⟩ : Addr).add 0) = ⟨g, off, none⟩ := by rw [add_none]; simp
  rw [e0] at hr
  unfold execOp
  simp only [ho, hx, Option.map_none, Sem.run_bind, hr, Result.andThen_ok, Sem.run_pure]
end
theorem exec_f0 {w : World} {a : Act} {o : Oper} (x : Operand) (ho : o.op = .fieldAddr 128 x 0) (g : Nat) (hx : a.eval x = .pointer (some ⟨g, 0, none⟩)) : (execOp a.eval o).run Try.prog w = .ok (.value (.pointer (some ⟨g, 0, none⟩))) w := by
  unfold execOp
  simp only [ho, hx]
  go_simp
theorem exec_f1 {w : World} {a : Act} {o : Oper} (x : Operand) (ho : o.op = .fieldAddr 128 x 1) (g : Nat) (hx : a.eval x = .pointer (some ⟨g, 0, none⟩)) : (execOp a.eval o).run Try.prog w = .ok (.value (.pointer (some ⟨g, 1, none⟩))) w := by
  unfold execOp
  simp only [ho, hx]
  go_simp
theorem exec_f2 {w : World} {a : Act} {o : Oper} (x : Operand) (ho : o.op = .fieldAddr 128 x 2) (g : Nat) (hx : a.eval x = .pointer (some ⟨g, 0, none⟩)) : (execOp a.eval o).run Try.prog w = .ok (.value (.pointer (some ⟨g, 9, none⟩))) w := by
  unfold execOp
  simp only [ho, hx]
  go_simp
theorem exec_f3 {w : World} {a : Act} {o : Oper} (x : Operand) (ho : o.op = .fieldAddr 128 x 3) (g : Nat) (hx : a.eval x = .pointer (some ⟨g, 0, none⟩)) : (execOp a.eval o).run Try.prog w = .ok (.value (.pointer (some ⟨g, 73, none⟩))) w := by
  unfold execOp
  simp only [ho, hx]
  go_simp
theorem exec_f4 {w : World} {a : Act} {o : Oper} (x : Operand) (ho : o.op = .fieldAddr 128 x 4) (g : Nat) (hx : a.eval x = .pointer (some ⟨g, 0, none⟩)) : (execOp a.eval o).run Try.prog w = .ok (.value (.pointer (some ⟨g, 74, none⟩))) w := by
  unfold execOp
  simp only [ho, hx]
  go_simp
theorem exec_index_agg {w : World} {a : Act} {o : Oper} (x y : Operand) (ho : o.op = .index 96 x y) (l : List Nat) (i : Nat) (k : IntKind) (n : Nat) (hx : a.eval x = .agg (wvs l).toArray) (hy : a.eval y = .int k (i : Int)) (hl : l.length = 8) (e : l[i]? = some n) :
    (execOp a.eval o).run Try.prog w = .ok (.value (.int .u32 (n : Int))) w := by
  have hi : i < l.length := (List.getElem?_eq_some_iff.1 e).1
  have h1 : (wvs l)[i]? = some (wv n) := by rw [wvs_get, e]; rfl
  have h2 : (i : Int) < 8 := by omega
  have ha : (isAgg 94).run Try.prog w = .ok false w := by
    unfold isAgg
    rw [Sem.run_bind, run_underlying Try.underlying94 w]
    rfl
  have hz : (sizeOf 94).run Try.prog w = .ok 1 w := by
    have hs := one94
    cases hq : Try.prog.info? 94 with
    | none => simp [hq] at hs
    | some j =>
      simp [hq] at hs
      simp [sizeOf, typeInfo, hq, hs]
  have hp : (part 94 (wvs l).toArray i).run Try.prog w = .ok (wv n) w := by
    unfold part
    rw [Sem.run_bind, ha]
    simp [h1]
  have hr : (Instr.index 96 (.agg (wvs l).toArray) (.int k (i : Int))).run Try.prog w = .ok (wv n) w := by
    simp [Instr.index, run_underlying Try.underlying96, asIntOf, h2, hz, hp]
    intro h; omega
  unfold execOp
  simp only [ho, hx, hy, Sem.run_bind, hr, Result.andThen_ok, Sem.run_pure]
  rfl
theorem at128 : AT Try.prog 128 75 := ⟨⟨_, Try.underlying128, rfl⟩, by kernel_rfl⟩
theorem at25w : AT Try.prog 25 32 := ⟨⟨_, Try.underlying25, rfl⟩, by kernel_rfl⟩
theorem ia25 : IA Try.prog 25 32 := ⟨⟨_, Try.underlying25, by kernel_rfl⟩⟩
theorem one3 : (Try.prog.info? 3).map (·.size) = some 1 := by kernel_rfl
theorem w3 : ∃ d, Try.prog.underlying 3 = some d ∧ d.isRow = false := ⟨_, Try.underlying3, rfl⟩
theorem w4 : ∃ d, Try.prog.underlying 4 = some d ∧ d.isRow = false := ⟨_, Try.underlying4, rfl⟩

/-- The state in block g holds the text m. -/
def St (w : World) (g : Nat) (m : List UInt8) : Prop := ∃ b, StB m b ∧ Blk w g 128 (stC (hOf m) b (m.length % 64) m.length)
theorem St.lt {w : World} {g : Nat} {m : List UInt8} (h : St w g m) : g < w.heap.size := by
  obtain ⟨b, _, hb⟩ := h
  exact hb.lt
theorem St.fr {S : Nat → Prop} {w w' : World} {g : Nat} {m : List UInt8} (h : St w g m) (hf : Fr S w w') (hg : ¬ S g) : St w' g m := by
  obtain ⟨b, h1, hb⟩ := h
  exact ⟨b, h1, hb.fr hf hg⟩
theorem St.below {w w' : World} {g : Nat} {m : List UInt8} (h : St w g m) (hf : Below w.heap.size w w') : St w' g m := by
  obtain ⟨b, h1, hb⟩ := h
  exact ⟨b, h1, hb.below hf hb.lt⟩
theorem stC_one (h : List Nat) (b : List UInt8) (n all : Nat) : ∀ u ∈ stC h b n all, u.oneCell' = true := by
  intro u hu
  unfold stC at hu
  rcases List.mem_cons.1 hu with rfl | hu
  · rfl
  · rcases List.mem_append.1 hu with hu | hu
    · exact wvs_one _ _ hu
    · rcases List.mem_append.1 hu with hu | hu
      · exact bvs_one _ _ hu
      · simp at hu
        rcases hu with rfl | rfl <;> rfl
end Go.Proofs.Ytehbahobkgoapaa
