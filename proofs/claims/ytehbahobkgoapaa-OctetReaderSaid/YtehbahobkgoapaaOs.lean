/- What a row's arguments are in memory: slices of pairs (calls of a reader), slices of integers, texts. -/
import Derived.Test.YtehbahobkgoapaaOr
import Derived.Test.YtehbahobkgoapaaRw
import Derived.Deep.SlicePairs
namespace Go.Proofs.Ytehbahobkgoapaa
open Go Go.RowKit Go.ChangeShapes Go.WideShapes Go.ChangeAt
set_option linter.unusedSimpArgs false
set_option linter.unusedVariables false

section
variable {H : Type} {enc : TypeId × Value → H} {P : Program} {W : World} {base : Nat}

theorem askC_get (asks : List (Int × Int)) (j : Nat) (h : j / 2 < asks.length) : (askC asks)[j]? = some (if j % 2 = 0 then .int .u8 (asks[j / 2]).1 else .int .i64 (asks[j / 2]).2) := by
  have h1 := askC_at asks (j / 2) h
  have h2 : (((askC asks).drop (j / 2 * 2)).take 2)[j % 2]? = (askC asks)[j]? := by
    rw [List.getElem?_take_of_lt (by omega), List.getElem?_drop]
    congr 1; omega
  rw [← h2, h1]
  rcases Nat.mod_two_eq_zero_or_one j with e | e <;> rw [e] <;> rfl
theorem u8_wf {z : Int} (h : (Lit.int .u8 z).wf = true) : 0 ≤ z ∧ z ≤ 255 := by
  simpa [Lit.wf, IntKind.min, IntKind.max, IntKind.signed, IntKind.bits] using h

theorem open_asks {T E : TypeId} {f0 f1 : Field} (ht : P.underlying T = some (.slice E)) (he : P.underlying E = some (.struct #[f0, f1])) (ce : P.cellsOf E = 2) (o0 : f0.offset = 0) (o1 : f1.offset = 1) (c0 : P.cellsOf f0.type = 1) (c1 : P.cellsOf f1.type = 1)
    (u0 : P.underlying f0.type = some (.int .u8)) (u1 : P.underlying f1.type = some (.int .i64)) {v : Value} {d : DataW H} {p : List MemPlace} (hv : Value.okWide P W .any base T v) (h : DataW.Trod enc P W 0 (fun _ => true) true T v d p) :
    ∃ A n c asks, v = .slice A n c ∧ asks.length = n ∧ n ≤ 9223372036854775807 ∧ Rd W A (askC asks) ∧ ∀ x ∈ asks, (0 ≤ x.1 ∧ x.1 ≤ 255) ∧ -9223372036854775808 ≤ x.2 ∧ x.2 ≤ 9223372036854775807 := by
  obtain ⟨A, n, c, rfl⟩ := okWide_slice ht hv
  obtain ⟨fuel, hf⟩ := h
  rcases Deep.open_slice_pairs ht he ce o0 o1 c0 c1 hf with ⟨hcs, hx⟩ | ⟨a, len, cap, m, k, V0, V1, D0, D1, P0, P1, hcs, _, hl, hm, hmm, hx, hr⟩
  · simp [Value.cells] at hcs
    obtain ⟨rfl, rfl, rfl⟩ := hcs
    exact ⟨none, 0, 0, [], rfl, rfl, by omega, Rd.nil _ _, by simp⟩
  · simp [Value.cells] at hcs
    obtain ⟨rfl, rfl, rfl⟩ := hcs
    have hml : n ≤ m := by rw [hmm]; split <;> omega
    have each : ∀ i, i < n → ∃ q : Int × Int, V0 i = .int .u8 q.1 ∧ V1 i = .int .i64 q.2 ∧ (0 ≤ q.1 ∧ q.1 ≤ 255) ∧ -9223372036854775808 ≤ q.2 ∧ q.2 ≤ 9223372036854775807 := by
      intro i hi
      obtain ⟨_, _, h2, h3⟩ := hr i (by omega)
      obtain ⟨z0, e0, _, w0⟩ := DataW.trod_int u0 h2
      obtain ⟨z1, e1, _, w1⟩ := DataW.trod_int u1 h3
      injection e0 with e0 _
      injection e1 with e1 _
      exact ⟨(z0, z1), e0, e1, u8_wf w0, i64_wf w1⟩
    obtain ⟨q, hq⟩ := Deep.choose_lt each
    refine ⟨some a, n, c, (List.range n).map q, rfl, by simp, by unfold maxLen at hm; omega, fun _ => ⟨a, rfl, fun j u hu => ?_⟩, ?_⟩
    · have hlen : ((List.range n).map q).length = n := by simp
      have hj : j < n * 2 := by
        have := (List.getElem?_eq_some_iff.1 hu).1
        rwa [askC_length, hlen] at this
      rw [askC_get _ j (by rw [hlen]; omega)] at hu
      obtain ⟨h0, h1, _, _⟩ := hr (j / 2) (by omega)
      obtain ⟨e0, e1, _⟩ := hq (j / 2) (by omega)
      rcases Nat.mod_two_eq_zero_or_one j with e | e
      · rw [e] at hu
        simp only [if_true, List.getElem_map, List.getElem_range, Option.some.injEq] at hu
        rw [← hu, ← e0, ← h0]
        congr 2; omega
      · rw [e] at hu
        simp only [if_neg (show ¬ (1 = 0) by omega), List.getElem_map, List.getElem_range, Option.some.injEq] at hu
        rw [← hu, ← e1, ← h1]
        congr 2; omega
    · intro x hx'
      obtain ⟨i, hi, rfl⟩ := List.mem_map.1 hx'
      exact (hq i (List.mem_range.1 hi)).2.2
end
end Go.Proofs.Ytehbahobkgoapaa
