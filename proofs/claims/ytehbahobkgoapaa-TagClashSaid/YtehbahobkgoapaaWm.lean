/- Arrays of words: read from an argument, compared with themselves. -/
import Derived.Test.YtehbahobkgoapaaWl
import Derived.Test.YtehbahobkgoapaaPa
import Derived.Test.YtehbahobkgoapaaOp
namespace Go.Proofs.Ytehbahobkgoapaa
open Go Go.RowKit Go.ChangeShapes Go.WideShapes Go.ChangeAt
set_option linter.unusedSimpArgs false
set_option linter.unusedVariables false

section
variable {P : Program} (w : World)
theorem run_equalIn_words (d : Nat) (t e : TypeId) (n : Nat) (ht : P.underlying t = some (.array n e)) (he : P.underlying e = some (.int .u32)) (hsz : ∀ w, (sizeOf e).run P w = .ok 1 w)
    (xs : List Nat) (hx : xs.length = n) :
    (Op.equalIn (d + 2) t (.agg (wvs xs).toArray) (.agg (wvs xs).toArray)).run P w = .ok true w := by
  rw [Op.equalIn]
  simp only [Sem.run_bind, run_underlying ht, Result.andThen_ok, hsz, Std.Legacy.Range.forIn_eq_forIn_range', Std.Legacy.Range.size, Nat.sub_zero, Nat.add_sub_cancel, Nat.div_one]
  have hl : ∀ i ∈ List.range' 0 n 1, i < n := fun i hi => by simpa using (List.mem_range'_1.1 hi).2
  generalize List.range' 0 n 1 = l at hl ⊢
  induction l with
  | nil => simp
  | cons i l ih =>
    have hi : i < n := hl i (by simp)
    have px : (part e (wvs xs).toArray (i * 1)).run P w = .ok (wv (xs.getD i 0)) w := by
      simp [part, isAgg, run_underlying he, wvs, List.getD, List.getElem?_eq_getElem (show i < xs.length by omega)]
    have pe : (Op.equalIn (d + 1) e (wv (xs.getD i 0)) (wv (xs.getD i 0))).run P w = .ok true w := by
      rw [wv, run_equalIn_int w d e .u32 .u32 _ _ he]
      simp
    simp only [List.forIn_cons, Sem.run_bind, px, pe, Result.andThen_ok]
    simp only [Bool.not_true, Bool.false_eq_true, if_false, Sem.run_pure, Result.andThen_ok]
    exact ih fun j hj => hl j (by simp [hj])
end
theorem exec_eql_words {w : World} {a : Act} {o : Oper} {T' : TypeId} (x y : Operand) (ho : o.op = .binOp .eql 96 x y T') (xs : List Nat) (ex : a.eval x = .agg (wvs xs).toArray) (ey : a.eval y = .agg (wvs xs).toArray) (hx : xs.length = 8) :
    (execOp a.eval o).run Try.prog w = .ok (.value (.bool true)) w := by
  have hsz : ∀ w, (sizeOf 94).run Try.prog w = .ok 1 w := by
    intro w
    have hs := one94
    cases hq : Try.prog.info? 94 with
    | none => simp [hq] at hs
    | some j =>
      simp [hq] at hs
      simp [sizeOf, typeInfo, hq, hs]
  have hr : (binOp .eql 96 (.agg (wvs xs).toArray) (.agg (wvs xs).toArray)).run Try.prog w = .ok (.bool true) w := by
    rw [run_eql_struct, run_equalIn_words w 9998 96 94 8 Try.underlying96 Try.underlying94 hsz xs hx]
    rfl
  have hg : (eqGuard .eql 96 x y (.agg (wvs xs).toArray) (.agg (wvs xs).toArray)).run Try.prog w = .ok () w := by
    have h : Try.prog.eqGuardType Try.prog.depth 96 = false := by kernel_rfl
    simp [eqGuard, h]
  unfold execOp
  simp only [ho, ex, ey, Sem.run_bind, hg, Result.andThen_ok, hr, Sem.run_pure]

theorem word_of_int {z : Int} (h : (Lit.int .u32 z).wf = true) : ∃ k : Nat, k < 4294967296 ∧ Value.int .u32 z = wv k := by
  have hz : 0 ≤ z ∧ z ≤ 4294967295 := by simpa [Lit.wf, IntKind.min, IntKind.max, IntKind.signed, IntKind.bits] using h
  refine ⟨z.toNat, by omega, ?_⟩
  unfold wv
  congr 1
  omega
section
variable {P : Program} {H : Type} {enc : TypeId × Value → H} {W : World} {base : Nat}
theorem open_arrw {n : Nat} {T E : TypeId} (ht : P.underlying T = some (.array n E)) (he : P.underlying E = some (.int .u32)) (hc : P.cellsOf E = 1) (hn : P.cellsOf T = n) {v : Value} {d : DataW H} {p : List MemPlace}
    (hv : Value.okWide P W .any base T v) (h : DataW.Trod enc P W 0 (fun _ => true) true T v d p) : ∃ k : List Nat, k.length = n ∧ (∀ x ∈ k, x < 4294967296) ∧ v = .agg (wvs k).toArray := by
  obtain ⟨cs, rfl, hs⟩ := okWide_array ht hv
  obtain ⟨fuel, hf⟩ := h
  obtain ⟨xs, m, _, _, hl, hxl, hi⟩ := DataW.trod_array ht hf
  have hsz : cs.size = n := hs.trans hn
  have hone : ∀ i (hi' : i < cs.size), ∃ x : Nat, x < 4294967296 ∧ cs[i] = wv x := by
    intro i hi'
    have h1 := hi i (by omega)
    rw [hc, Nat.mul_one] at h1
    have hd : (cs.toList.drop i).take 1 = [cs[i]] := by
      rw [List.drop_eq_getElem_cons (by simpa using hi')]
      simp
    have h2 : DataW.trod enc P W 0 (fun _ => true) true m E [cs[i]] = some (xs[i]'(by omega)) := by
      rw [← hd]
      have := h1
      simp only [Value.cells] at this
      rw [this, List.getElem?_eq_getElem (by omega)]
    obtain ⟨z, hz, _, hw⟩ := DataW.trod_int he h2
    injection hz with hz _
    obtain ⟨k, hk, e⟩ := word_of_int hw
    exact ⟨k, hk, by rw [hz, e]⟩
  refine ⟨(List.range n).map fun i => if h : i < cs.size then (hone i h).choose else 0, by simp, ?_, ?_⟩
  · intro x hx
    obtain ⟨i, hi, rfl⟩ := List.mem_map.1 hx
    split
    · next h => exact (hone i h).choose_spec.1
    · decide
  · congr 1
    apply Array.ext'
    apply List.ext_getElem?
    intro i
    simp only [wvs, List.map_map, List.getElem?_map]
    by_cases h : i < n
    · have h' : i < cs.size := by omega
      simp only [List.getElem?_range h, Option.map_some, Function.comp, dif_pos h']
      rw [List.getElem?_eq_getElem (by simpa using h')]
      congr 1
      exact (hone i h').choose_spec.2
    · rw [List.getElem?_eq_none (by simp; omega)]
      simp [h]
end
theorem ab25 : AB Try.prog 25 32 := ⟨⟨5, Try.underlying25, Try.underlying5, by kernel_rfl⟩, by kernel_rfl⟩
theorem lent_rd0 {w : World} {g : Nat} {l : List UInt8} (h : Blk w g 5 (bvs (lentAll l))) : Rd w (some ⟨g, 0, none⟩) (bvs l) := by
  unfold lentAll at h
  rw [bvs_append] at h
  exact Rd.of_blk0 h
end Go.Proofs.Ytehbahobkgoapaa
