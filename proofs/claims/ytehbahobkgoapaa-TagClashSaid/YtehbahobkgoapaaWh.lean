/- Laws of the walk: conversions, quotients, remainders, shifts of numbers that are known not to wrap. -/
import Derived.Test.YtehbahobkgoapaaWq
namespace Go.Proofs.Ytehbahobkgoapaa
open Go Go.RowKit
set_option linter.unusedSimpArgs false
set_option linter.unusedVariables false
section
variable {P : Program} {w : World} {a : Act} {o : Oper} {t t' : TypeId}
theorem exec_conv {d : TypeDesc} {k' : IntKind} (hs : P.underlying t = some d) (hd : P.underlying t' = some (.int k')) (x : Operand) (ho : o.op = .convert t t' x) (k : IntKind) (n m : Int) (hk : d = .int k) (hx : a.eval x = .int k n) (hw : k'.wrap n = m) :
    (execOp a.eval o).run P w = .ok (.value (.int k' m)) w := by
  subst hk
  have hk : P.intKind t' = k' := by simp [Program.intKind, hd]
  have hr := run_convert_int (P := P) w t t' k n (by rw [hs]; rfl) (by rw [hk]; exact hd)
  rw [hk, hw] at hr
  unfold execOp
  simp only [ho, hx, Sem.run_bind, hr, Result.andThen_ok, Sem.run_pure]
theorem exec_umul (x y : Operand) (ho : o.op = .binOp .mul t x y t') (m n r : Int) (hx : a.eval x = .int .u64 m) (hy : a.eval y = .int .u64 n) (hr : m * n = r) (h1 : 0 ≤ r ∧ r ≤ 18446744073709551615) :
    (execOp a.eval o).run P w = .ok (.value (.int .u64 r)) w := by
  subst hr
  have e : IntKind.u64.wrap (m * n) = m * n := by rw [IntKind.wrap_u64]; omega
  unfold execOp
  simp only [ho, hx, hy]
  go_simp
  try first | exact congrArg (fun z => Result.ok (Next.value (Value.int .u64 z)) w) e | exact e
theorem exec_ushr (x y : Operand) (ho : o.op = .binOp .shr t x y t') (m s : Nat) (k : IntKind) (hx : a.eval x = .int .u64 (m : Int)) (hy : a.eval y = .int k (s : Int)) (hs : s ≤ 64) (d : Nat) (hd : 2 ^ s = d) :
    (execOp a.eval o).run P w = .ok (.value (.int .u64 ((m / d : Nat) : Int))) w := by
  subst hd
  have h0 : (0 : Int) ≤ (s : Int) := by omega
  have h1 : (s : Int) ≤ 64 := by omega
  unfold execOp
  simp only [ho, hx, hy]
  go_simp
theorem exec_irem (x y : Operand) (ho : o.op = .binOp .rem t x y t') (m n r : Nat) (hx : a.eval x = .int .i64 (m : Int)) (hy : a.eval y = .int .i64 (n : Int)) (hn : 0 < n) (hr : m % n = r) :
    (execOp a.eval o).run P w = .ok (.value (.int .i64 (r : Int))) w := by
  subst hr
  have h0 : ((n : Int) == 0) = false := by simp; omega
  have h2 : (n : Int) ≠ 0 := by omega
  have e : (m : Int).tmod (n : Int) = ((m % n : Nat) : Int) := by rw [Int.tmod_eq_emod_of_nonneg (by omega)]; rfl
  unfold execOp
  simp only [ho, hx, hy]
  go_simp
  omega
theorem exec_iquo (x y : Operand) (ho : o.op = .binOp .quo t x y t') (m n r : Nat) (hx : a.eval x = .int .i64 (m : Int)) (hy : a.eval y = .int .i64 (n : Int)) (hn : 0 < n) (hr : m / n = r) (hm : m ≤ 9223372036854775807) :
    (execOp a.eval o).run P w = .ok (.value (.int .i64 (r : Int))) w := by
  subst hr
  have h0 : ((n : Int) == 0) = false := by simp; omega
  have h2 : (n : Int) ≠ 0 := by omega
  have h3 : m / n ≤ m := Nat.div_le_self _ _
  have e : (m : Int).tdiv (n : Int) = ((m / n : Nat) : Int) := rfl
  have e2 : IntKind.i64.wrap ((m / n : Nat) : Int) = ((m / n : Nat) : Int) := IntWalk.i64_in _ (by generalize m / n = q at *; omega)
  have e3 : IntKind.i64.wrap ((m : Int) / (n : Int)) = (m : Int) / (n : Int) := e2
  have h4 : ¬ n = 0 := by omega
  unfold execOp
  simp only [ho, hx, hy]
  go_simp
end
end Go.Proofs.Ytehbahobkgoapaa
