/- Arrays of bytes compared. -/
import Derived.Test.YtehbahobkgoapaaSl
import Derived.Stop.BytesEq
namespace Go.Proofs.Ytehbahobkgoapaa
open Go Go.RowKit

variable {P : Program} {w : World} {a : Act} {o : Oper}

/-- T is [n]byte. -/
structure AB (P : Program) (T : TypeId) (n : Nat) : Prop where
  u : ∃ e, P.underlying T = some (.array n e) ∧ P.underlying e = some (.int .u8) ∧ (P.info? e).map (·.size) = some 1
  g : P.eqGuardType P.depth T = false

theorem cell_bv (l : List UInt8) : l.map Extern.Stop.cell = bvs l := rfl

theorem AB.run {T n : Nat} (B : AB P T n) (xs ys : List UInt8) (hx : xs.length = n) (hy : ys.length = n) :
    (binOp .eql T (.agg (bvs xs).toArray) (.agg (bvs ys).toArray)).run P w = .ok (.bool (xs == ys)) w := by
  obtain ⟨e, h1, h2, h3⟩ := B.u
  have hsz : ∀ w, (sizeOf e).run P w = .ok 1 w := by
    intro w
    obtain ⟨i, hi, he⟩ := Option.map_eq_some_iff.1 h3
    simp [sizeOf, typeInfo, hi, he]
  exact run_eql_bytes w T e n h1 h2 hsz xs ys hx hy

theorem exec_eql_arr {T T' n : Nat} (B : AB P T n) (x y : Operand) (ho : o.op = .binOp .eql T x y T') (xs ys : List UInt8) (ex : a.eval x = .agg (bvs xs).toArray) (ey : a.eval y = .agg (bvs ys).toArray) (hx : xs.length = n) (hy : ys.length = n) :
    (execOp a.eval o).run P w = .ok (.value (.bool (xs == ys))) w := by
  have hr := AB.run (w := w) B xs ys hx hy
  have hg : (eqGuard .eql T x y (.agg (bvs xs).toArray) (.agg (bvs ys).toArray)).run P w = .ok () w := by
    simp [eqGuard, B.g]
  unfold execOp
  simp only [ho, ex, ey, Sem.run_bind, hg, Result.andThen_ok, hr, Sem.run_pure]

theorem exec_neq_arr {T T' n : Nat} (B : AB P T n) (x y : Operand) (ho : o.op = .binOp .neq T x y T') (xs ys : List UInt8) (ex : a.eval x = .agg (bvs xs).toArray) (ey : a.eval y = .agg (bvs ys).toArray) (hx : xs.length = n) (hy : ys.length = n) :
    (execOp a.eval o).run P w = .ok (.value (.bool (!(xs == ys)))) w := by
  have hr := AB.run (w := w) B xs ys hx hy
  have hg : (eqGuard .neq T x y (.agg (bvs xs).toArray) (.agg (bvs ys).toArray)).run P w = .ok () w := by
    simp [eqGuard, B.g]
  have hn : (binOp .neq T (.agg (bvs xs).toArray) (.agg (bvs ys).toArray)).run P w = .ok (.bool (!(xs == ys))) w := by
    have h1 : (Op.equal T (.agg (bvs xs).toArray) (.agg (bvs ys).toArray)).run P w = .ok (xs == ys) w := by
      have h2 : binOp .eql T (.agg (bvs xs).toArray) (.agg (bvs ys).toArray) = (do pure (.bool (← Op.equal T (.agg (bvs xs).toArray) (.agg (bvs ys).toArray)))) := rfl
      rw [h2] at hr
      simp only [Sem.run_bind] at hr
      generalize (Op.equal T (.agg (bvs xs).toArray) (.agg (bvs ys).toArray)).run P w = r at hr
      cases r with
      | ok b w' => simp at hr; rw [hr.1, hr.2]
      | halt h w' => simp [Result.andThen] at hr
    have h3 : binOp .neq T (.agg (bvs xs).toArray) (.agg (bvs ys).toArray) = (do pure (.bool (!(← Op.equal T (.agg (bvs xs).toArray) (.agg (bvs ys).toArray))))) := rfl
    rw [h3]
    simp only [Sem.run_bind, h1, Result.andThen_ok, Sem.run_pure]
  unfold execOp
  simp only [ho, ex, ey, Sem.run_bind, hg, Result.andThen_ok, hn, Sem.run_pure]
end Go.Proofs.Ytehbahobkgoapaa
