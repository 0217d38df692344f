/- What a row's arguments are in memory: two byte slices in a struct. -/
import Derived.Test.YtehbahobkgoapaaOp
import Derived.Test.YtehbahobkgoapaaTy
import Derived.ChangeSame
namespace Go.Proofs.Ytehbahobkgoapaa
open Go Go.RowKit Go.ChangeShapes Go.WideShapes Go.ChangeAt
set_option linter.unusedSimpArgs false
set_option linter.unusedVariables false
section
variable {H : Type} {enc : TypeId × Value → H} {P : Program} {W : World} {base : Nat}
/-- What a slice's data say of its room. -/
def RoomOf (d : DataW H) (c : Nat) : Prop := (d = .nil ∧ c = 0) ∨ ∃ es sp, d = .slice es sp ∧ es.length + sp.length = c
theorem bytes_of_trod {T E S : TypeId} (B : BT P T E S) (hc : P.cellsOf E = 1) {fuel : Nat} {cs : List Value} {x : DataW H × List MemPlace} (hf : DataW.trod enc P W 0 (fun _ => true) true fuel T cs = some x) :
    ∃ A n c l, cs = [.slice A n c] ∧ l.length = n ∧ n ≤ c ∧ Rd W A (bvs l) ∧ RoomOf x.1 c := by
  rcases open_ints B.t B.e hc hf with ⟨hcs, hx⟩ | ⟨x, l, cap, zs, hcs, _, hl, hm, hz, hx, hcell, hwz⟩
  · subst hcs; subst hx
    exact ⟨none, 0, 0, [], rfl, rfl, Nat.le_refl _, Rd.nil _ _, .inl ⟨rfl, rfl⟩⟩
  · subst hcs; subst hx
    simp only [if_true] at hz
    refine ⟨some x, l, cap, (zs.take l).map fun z => UInt8.ofNat z.toNat, rfl, by simp; omega, hl, fun _ => ⟨x, rfl, fun j u hu => ?_⟩, .inr ⟨_, _, rfl, by simp [lits]; omega⟩⟩
    have hj : j < l := by
      have := (List.getElem?_eq_some_iff.1 hu).1
      simp [bvs] at this; omega
    have hjz : j < zs.length := by omega
    rw [hcell j hjz]
    simp only [bvs, List.map_map, List.getElem?_map, List.getElem?_take_of_lt hj, List.getElem?_eq_getElem hjz, Option.map_some, Function.comp] at hu
    rw [← hu, ← byte_of_int (hwz _ (List.getElem_mem hjz))]
    simp [hjz]
theorem open_clash {T E S Q : TypeId} {f0 f1 : Field} (B : BT P E S Q) (hc : P.cellsOf S = 1) (ht : P.underlying T = some (.struct #[f0, f1])) (o0 : f0.offset = 0) (o1 : f1.offset = 1) (t0 : f0.type = E) (t1 : f1.type = E) (ce : P.cellsOf E = 1) (c2 : P.cellsOf T = 2) {v : Value} {d : DataW H} {p : List MemPlace}
    (hv : Value.okWide P W .any base T v) (h : DataW.Trod enc P W 0 (fun _ => true) true T v d p) :
    ∃ A n c l B' m e k y z, v = .agg #[.slice A n c, .slice B' m e] ∧ l.length = n ∧ n ≤ c ∧ Rd W A (bvs l) ∧ k.length = m ∧ m ≤ e ∧ Rd W B' (bvs k) ∧ d = .agg [y, z] ∧ RoomOf y c ∧ RoomOf z e := by
  obtain ⟨cs, rfl⟩ : ∃ cs, v = .agg cs := by
    simp only [Value.okWide, ht] at hv
    obtain ⟨cs, h1, _⟩ := hv
    exact ⟨cs, h1⟩
  obtain ⟨fuel, hf⟩ := h
  obtain ⟨y0, y1, n, hx, hl, h0, h1⟩ := trod_struct2 ht hf
  rw [o0, t0, ce, List.drop_zero] at h0
  rw [o1, t1, ce] at h1
  obtain ⟨A, n0, c0, l0, e0, a1, a2, a3, a4⟩ := bytes_of_trod B hc h0
  obtain ⟨B', n1, c1, l1, e1, b1, b2, b3, b4⟩ := bytes_of_trod B hc h1
  simp only [Prod.mk.injEq] at hx
  have hlen : cs.toList.length = 2 := by
    have h3 := hl
    rw [c2] at h3
    simpa [Value.cells] using h3
  have hcs : cs.toList = [.slice A n0 c0, .slice B' n1 c1] := by
    match hq : cs.toList, hlen with
    | [u, v], _ =>
      simp only [Value.cells, hq] at e0 e1
      simp at e0 e1
      rw [e0, e1]
  refine ⟨A, n0, c0, l0, B', n1, c1, l1, _, _, ?_, a1, a2, a3, b1, b2, b3, hx.1, a4, b4⟩
  congr 1
  apply Array.ext'
  rw [hcs]
end
theorem room_le {H : Type} {ts : List TypeId} {ds : List (DataW H)} (h : (DataW.weightsEach Try.prog ts ds).all (· ≤ reachBytes) = true) {j : Nat} {d : DataW H} {c : Nat} (ht : ts[j]? = some 24) (hd : ds[j]? = some d) (hr : RoomOf d c) : c ≤ 140737488351232 := by
  rcases hr with ⟨_, hq⟩ | ⟨es, sp, rfl, hq⟩
  · omega
  · have := sized_slice h (j := j) (t := 24) (e := 5) (elems := es) (spare := sp) ht hd Try.underlying24
    rw [show Try.prog.bytesOf 5 = 1 by kernel_rfl] at this
    simp only [reachBytes] at this
    omega
theorem room_clash {H : Type} {ts : List TypeId} {ds : List (DataW H)} (h : (DataW.weightsEach Try.prog ts ds).all (· ≤ reachBytes) = true) {j : Nat} {y z : DataW H} {c e : Nat} (ht : ts[j]? = some 124) (hd : ds[j]? = some (.agg [y, z])) (hy : RoomOf y c) (hz : RoomOf z e) : c ≤ 140737488351232 ∧ e ≤ 140737488351232 := by
  have hw : (DataW.weightsEach Try.prog [24, 24] [y, z]).all (· ≤ reachBytes) = true := by
    rw [List.all_eq_true]
    intro n hn
    refine List.all_eq_true.1 h n (DataW.weights_mem_each ht hd n ?_)
    simp only [DataW.weights, Try.underlying124]
    exact hn
  exact ⟨room_le hw (j := 0) rfl rfl hy, room_le hw (j := 1) rfl rfl hz⟩
end Go.Proofs.Ytehbahobkgoapaa
