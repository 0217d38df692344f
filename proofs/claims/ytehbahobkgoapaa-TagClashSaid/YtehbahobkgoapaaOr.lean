/- What a row's arguments are in memory: rows of byte slices, integers; what an upto bound says of them. -/
import Derived.Test.YtehbahobkgoapaaRows
import Derived.Test.YtehbahobkgoapaaOp
import Derived.Deep.Matrix
namespace Go.Proofs.Ytehbahobkgoapaa
open Go Go.RowKit Go.ChangeShapes Go.WideShapes Go.ChangeAt

theorem i64_wf {z : Int} (h : (Lit.int .i64 z).wf = true) : -9223372036854775808 ≤ z ∧ z ≤ 9223372036854775807 := by
  simpa [Lit.wf, IntKind.min, IntKind.max, IntKind.signed, IntKind.bits] using h

namespace bulks
theorem one_le {H : Type} (d : DataW H) : 1 ≤ Rows.uptoBulk d := by
  cases d with
  | lit l => cases l <;> simp [Rows.uptoBulk]
  | nil => simp [Rows.uptoBulk]
  | ptr d => simp [Rows.uptoBulk]
  | slice elems spare => simp [Rows.uptoBulk]
  | agg parts => simp [Rows.uptoBulk]
  | iface t d => simp [Rows.uptoBulk]
  | map entries => simp [Rows.uptoBulk]
  | held h => simp [Rows.uptoBulk]
theorem part_le {H : Type} {d : DataW H} {l : List (DataW H)} (h : d ∈ l) : Rows.uptoBulk d ≤ Rows.uptoBulkAll l := by
  induction l with
  | nil => cases h
  | cons x r ih =>
    simp only [Rows.uptoBulkAll]
    cases List.mem_cons.1 h with
    | inl e => subst e; omega
    | inr e => have := ih e; omega
theorem length_le {H : Type} (l : List (DataW H)) : l.length ≤ Rows.uptoBulkAll l := by
  induction l with
  | nil => simp [Rows.uptoBulkAll]
  | cons x r ih => have := one_le x; simp only [Rows.uptoBulkAll, List.length_cons]; omega
theorem slice_le {H : Type} (elems spare : List (DataW H)) : elems.length + spare.length + 1 ≤ Rows.uptoBulk (.slice elems spare) := by
  have h1 := length_le elems
  have h2 := length_le spare
  simp only [Rows.uptoBulk]
  omega
theorem slice_elems {H : Type} (elems spare : List (DataW H)) : Rows.uptoBulkAll elems + 1 ≤ Rows.uptoBulk (.slice elems spare) := by
  simp only [Rows.uptoBulk]
  omega
theorem bound {H : Type} {l : List (DataW H)} (hk : Rows.uptoSmall H l = true) : Rows.uptoBulkAll l ≤ 1048576 := by
  simpa [Rows.uptoSmall] using hk
theorem one_bound {H : Type} {l : List (DataW H)} (hk : Rows.uptoSmall H l = true) {d : DataW H} (h : d ∈ l) : Rows.uptoBulk d ≤ 1048576 := Nat.le_trans (part_le h) (bound hk)
end bulks

section
variable {H : Type} {enc : TypeId × Value → H} {P : Program} {W : World} {base : Nat}

def rowOf (zs : List Int) (L : Nat) : List UInt8 := (zs.take L).map fun z => UInt8.ofNat z.toNat

theorem rows_bulk (R : List Nat) (A : Nat → Option Addr) (L : Nat → Nat) (Z : Nat → List Int) (h : ∀ r ∈ R, L r ≤ (Z r).length ∧ (A r = none → L r = 0)) :
    R.length + ((R.map fun r => rowOf (Z r) (L r)).flatten).length ≤ Rows.uptoBulkAll (R.map fun r => (Deep.intRow .u8 (A r) (L r) (Z r) : DataW H)) := by
  induction R with
  | nil => simp [Rows.uptoBulkAll]
  | cons r R ih =>
    have h1 := ih fun q hq => h q (List.mem_cons_of_mem _ hq)
    have h2 := h r List.mem_cons_self
    have h3 : L r + 1 ≤ Rows.uptoBulk (Deep.intRow .u8 (A r) (L r) (Z r) : DataW H) := by
      unfold Deep.intRow
      cases hA : A r with
      | none => rw [h2.2 hA]; exact bulks.one_le _
      | some a =>
        refine Nat.le_trans ?_ (bulks.slice_le _ _)
        simp [lits]; omega
    simp only [List.map_cons, List.flatten_cons, List.length_append, List.length_cons, Rows.uptoBulkAll]
    have h4 : (rowOf (Z r) (L r)).length = L r := by simp [rowOf]; omega
    omega

theorem open_rows {T E Q S : TypeId} (B : BT P E Q S) (ht : P.underlying T = some (.slice E)) (ce : P.cellsOf E = 1) (cq : P.cellsOf Q = 1) {v : Value} {d : DataW H} {p : List MemPlace} (hv : Value.okWide P W .any base T v) (h : DataW.Trod enc P W 0 (fun _ => true) true T v d p) :
    ∃ A n c us ls, v = .slice A n c ∧ ls.length = n ∧ n ≤ c ∧ Rd W A us ∧ AllRd W us ls ∧ n + ls.flatten.length ≤ Rows.uptoBulk d := by
  obtain ⟨A, n, c, rfl⟩ := okWide_slice ht hv
  obtain ⟨fuel, hf⟩ := h
  rcases Deep.open_int_rows ht B.t B.e ce cq hf with ⟨hcs, hx⟩ | ⟨a, len, cap, Af, L, C, Z, hcs, _, hl, hm, hx, hr⟩
  · simp [Value.cells] at hcs
    obtain ⟨rfl, rfl, rfl⟩ := hcs
    exact ⟨none, 0, 0, [], [], rfl, rfl, Nat.le_refl _, Rd.nil _ _, AllRd.nil _, by simp⟩
  · simp [Value.cells] at hcs
    obtain ⟨rfl, rfl, rfl⟩ := hcs
    simp only [Prod.mk.injEq] at hx
    have hrow : ∀ r, r < n → AllRd W [.slice (Af r) (L r) (C r)] [rowOf (Z r) (L r)] := by
      intro r hrn
      obtain ⟨h1, h2, h3, h4, h5, h6, h7⟩ := hr r (by omega)
      have hlen : (rowOf (Z r) (L r)).length = L r := by simp [rowOf]; omega
      refine AllRd.cons ⟨Af r, C r, by rw [hlen], by rw [hlen]; exact h2, fun hpos => ?_⟩ (AllRd.nil _)
      rw [bvs_length, hlen] at hpos
      cases hA : Af r with
      | none => have := h6 hA; omega
      | some ad =>
        refine ⟨ad, rfl, fun j u hu => ?_⟩
        have hj : j < L r := by
          have := (List.getElem?_eq_some_iff.1 hu).1
          rw [bvs_length, hlen] at this; exact this
        rw [((h7 ad hA).2 j (by omega))]
        have hz : j < (Z r).length := by omega
        simp only [bvs, rowOf, List.map_map, List.getElem?_map, List.getElem?_take_of_lt hj, List.getElem?_eq_getElem hz, Option.map_some, Function.comp] at hu
        rw [← hu, ← byte_of_int (h5 _ (List.getElem_mem hz))]
        simp [hz]
    refine ⟨some a, n, c, (List.range n).map fun r => .slice (Af r) (L r) (C r), (List.range n).map fun r => rowOf (Z r) (L r), rfl, by simp, hl, fun _ => ⟨a, rfl, fun j u hu => ?_⟩, ⟨by simp, fun i u l hu hl' => ?_⟩, ?_⟩
    · have hj : j < n := by have := (List.getElem?_eq_some_iff.1 hu).1; simpa using this
      simp [hj] at hu
      rw [← hu]; exact (hr j (by omega)).1
    · have hj : i < n := by have := (List.getElem?_eq_some_iff.1 hu).1; simpa using this
      simp [hj] at hu hl'
      subst hu; subst hl'
      exact (hrow i hj).2 0 _ _ rfl rfl
    · rw [hx.1]
      have h1 := rows_bulk (H := H) (List.range n) Af L Z fun r hrn => by
        have := hr r (by have := List.mem_range.1 hrn; omega)
        exact ⟨by omega, fun hA => by have := this.2.2.2.2.2.1 hA; omega⟩
      have h2 := bulks.slice_elems ((List.range n).map fun r => (Deep.intRow .u8 (Af r) (L r) (Z r) : DataW H)) ((List.range (c - n)).map fun j => Deep.intRow .u8 (Af (n + j)) (L (n + j)) (Z (n + j)))
      simp only [List.length_range] at h1
      omega
end
end Go.Proofs.Ytehbahobkgoapaa
