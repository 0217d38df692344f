/- What a row's arguments are in memory: byte slices, arrays of bytes. -/
import Derived.Test.YtehbahobkgoapaaSl
import Derived.ProofKit
import Derived.OpenShut
import Derived.SizedLaws
namespace Go.Proofs.Ytehbahobkgoapaa
open Go Go.RowKit Go.ChangeShapes Go.WideShapes Go.ChangeAt

section
variable {H : Type} {enc : TypeId × Value → H} {P : Program} {W : World} {base : Nat}

theorem byte_of_int {z : Int} (h : (Lit.int .u8 z).wf = true) : Value.int .u8 z = bv (UInt8.ofNat z.toNat) := by
  have hz : 0 ≤ z ∧ z ≤ 255 := by simpa [Lit.wf, IntKind.min, IntKind.max, IntKind.signed, IntKind.bits] using h
  unfold bv
  congr 1
  rw [UInt8.toNat_ofNat_of_lt' (by show _ < 256; omega)]
  omega

theorem open_bytes {T E S : TypeId} (B : BT P T E S) (hc : P.cellsOf E = 1) {v : Value} {d : DataW H} {p : List MemPlace} (hv : Value.okWide P W .any base T v) (h : DataW.Trod enc P W 0 (fun _ => true) true T v d p) :
    ∃ A n c l, v = .slice A n c ∧ l.length = n ∧ n ≤ c ∧ Rd W A (bvs l) ∧ ((d = .nil ∧ c = 0) ∨ ∃ es sp, d = .slice es sp ∧ es.length + sp.length = c) := by
  obtain ⟨A, n, c, rfl⟩ := okWide_slice B.t hv
  obtain ⟨fuel, hf⟩ := h
  rcases open_ints B.t B.e hc hf with ⟨hcs, hx⟩ | ⟨x, l, cap, zs, hcs, _, hl, hm, hz, hx, hcell, hwz⟩
  · simp [Value.cells] at hcs
    obtain ⟨rfl, rfl, rfl⟩ := hcs
    simp only [Prod.mk.injEq] at hx
    exact ⟨none, 0, 0, [], rfl, rfl, Nat.le_refl _, Rd.nil _ _, .inl ⟨hx.1, rfl⟩⟩
  · simp [Value.cells] at hcs
    obtain ⟨rfl, rfl, rfl⟩ := hcs
    simp only [if_true] at hz
    simp only [Prod.mk.injEq] at hx
    refine ⟨some x, n, c, (zs.take n).map fun z => UInt8.ofNat z.toNat, rfl, by simp; omega, hl, fun _ => ⟨x, rfl, fun j u hu => ?_⟩, .inr ⟨_, _, hx.1, by simp [lits]; omega⟩⟩
    have hj : j < n := by
      have := (List.getElem?_eq_some_iff.1 hu).1
      simp [bvs] at this; omega
    have hjz : j < zs.length := by omega
    rw [hcell j hjz]
    simp only [bvs, List.map_map, List.getElem?_map, List.getElem?_take_of_lt hj, List.getElem?_eq_getElem hjz, Option.map_some, Function.comp] at hu
    rw [← hu, ← byte_of_int (hwz _ (List.getElem_mem hjz))]
    simp [hjz]

theorem okWide_array {n : Nat} {E T : TypeId} {v : Value} (ht : P.underlying T = some (.array n E)) (h : Value.okWide P W .any base T v) : ∃ cs, v = .agg cs ∧ cs.size = P.cellsOf T := by
  simp only [Value.okWide, ht] at h
  obtain ⟨cs, h1, h2, _⟩ := h
  exact ⟨cs, h1, h2⟩

theorem open_arr {n : Nat} {T E : TypeId} (ht : P.underlying T = some (.array n E)) (he : P.underlying E = some (.int .u8)) (hc : P.cellsOf E = 1) (hn : P.cellsOf T = n) {v : Value} {d : DataW H} {p : List MemPlace}
    (hv : Value.okWide P W .any base T v) (h : DataW.Trod enc P W 0 (fun _ => true) true T v d p) : ∃ k : List UInt8, k.length = n ∧ v = .agg (bvs k).toArray := by
  obtain ⟨cs, rfl, hs⟩ := okWide_array ht hv
  obtain ⟨fuel, hf⟩ := h
  obtain ⟨xs, m, _, _, hl, hxl, hi⟩ := DataW.trod_array ht hf
  have hsz : cs.size = n := hs.trans hn
  have hone : ∀ i (hi' : i < cs.size), ∃ x : UInt8, cs[i] = bv x := by
    intro i hi'
    have h1 := hi i (by omega)
    rw [hc, Nat.mul_one] at h1
    have hd : (cs.toList.drop i).take 1 = [cs[i]] := by
      rw [List.drop_eq_getElem_cons (by simpa using hi')]
      simp
    have h2 : DataW.trod enc P W 0 (fun _ => true) true m E [cs[i]] = some (xs[i]'(by omega)) := by
      rw [← hd]
      have := h1
      simp only [Value.cells] at this
      rw [this, List.getElem?_eq_getElem (by omega)]
    obtain ⟨z, hz, _, hw⟩ := DataW.trod_int he h2
    injection hz with hz _
    exact ⟨_, by rw [hz, byte_of_int hw]⟩
  refine ⟨(List.range n).map fun i => if h : i < cs.size then (hone i h).choose else 0, by simp, ?_⟩
  congr 1
  apply Array.ext'
  apply List.ext_getElem?
  intro i
  simp only [bvs, List.map_map, List.getElem?_map]
  by_cases h : i < n
  · have h' : i < cs.size := by omega
    simp only [List.getElem?_range h, Option.map_some, Function.comp, dif_pos h']
    rw [List.getElem?_eq_getElem (by simpa using h')]
    congr 1
    exact (hone i h').choose_spec
  · rw [List.getElem?_eq_none (by simp; omega)]
    simp [h]
end
end Go.Proofs.Ytehbahobkgoapaa
