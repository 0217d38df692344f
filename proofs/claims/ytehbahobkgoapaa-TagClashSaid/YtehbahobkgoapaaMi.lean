/- Laws of the walk: cells in the middle of a block, loaded, stored, copied over, by value. Each holds for every program with the types it names. -/
import Derived.Test.YtehbahobkgoapaaKib
import Derived.Test.YtehbahobkgoapaaSl
import Derived.Deep.MidRow
import Derived.Laws.Cover3
import Derived.Laws.ResultCell
namespace Go.Proofs.Ytehbahobkgoapaa
open Go Go.RowKit
set_option linter.unusedSimpArgs false
set_option linter.unusedVariables false

theorem splice_nil {α : Type} (L : List α) (o : Nat) : splice L o [] = L := by simp [splice]
theorem splice_cons {α : Type} (L : List α) (o : Nat) (v : α) (r : List α) (h : o < L.length) : splice (L.set o v) (o + 1) r = splice L o (v :: r) := by
  unfold splice
  have e1 : (L.set o v).take (o + 1) = L.take o ++ [v] := by
    rw [List.take_succ_eq_append_getElem (by simpa using h), List.take_set_of_le (Nat.le_refl _)]
    simp
  have e2 : (L.set o v).drop (o + 1 + r.length) = L.drop (o + (v :: r).length) := by
    rw [List.drop_set, if_pos (by omega)]
    congr 1
    simp; omega
  rw [e1, e2]
  simp
theorem splice_length {α : Type} (L : List α) (o : Nat) (vs : List α) (h : o + vs.length ≤ L.length) : (splice L o vs).length = L.length := length_splice L o vs h

section
variable {w w' : World} {g : Nat} {t : TypeId} {cs : List Value}
theorem Blk.setCells (h : Blk w g t cs) (o : Nat) (vs : List Value) (hf : o + vs.length ≤ cs.length) : Blk (w.setCells g o vs) g t (splice cs o vs) := by
  induction vs generalizing o w cs with
  | nil => rw [splice_nil]; exact h
  | cons v r ih =>
    rw [World.setCells]
    have h1 := ih (h.set_ o v) (o + 1) (by simp at hf ⊢; omega)
    rwa [splice_cons _ _ _ _ (by simp at hf; omega)] at h1
theorem grownBy_setCells (w : World) (g o : Nat) (vs : List Value) : w.grownBy (w.setCells g o vs) (some g) := by
  induction vs generalizing o w with
  | nil => exact World.grownBy.refl _ _
  | cons v r ih =>
    rw [World.setCells]
    exact (grownBy_setCell w g o v).trans' (ih _ _)
theorem size_setCells (w : World) (g o : Nat) (vs : List Value) : (w.setCells g o vs).heap.size = w.heap.size := by
  induction vs generalizing o w with
  | nil => rfl
  | cons v r ih => rw [World.setCells, ih]; simp
theorem Blk.range (h : Blk w g t cs) (o : Nat) (vs : List Value) (e : (cs.drop o).take vs.length = vs) : w.rangeAt g o vs := by
  intro j v hv
  have hj : j < vs.length := (List.getElem?_eq_some_iff.1 hv).1
  rw [h.cell]
  rw [← e, List.getElem?_take_of_lt hj, List.getElem?_drop] at hv
  exact hv
theorem Blk.there (h : Blk w g t cs) (o n : Nat) (hf : o + n ≤ cs.length) : w.there g o n := by
  intro j hj
  refine ⟨?_, h.free _⟩
  rw [h.cell, List.getElem?_eq_getElem (by omega)]
  rfl
end

section
variable {P : Program} {T E : TypeId} {w : World} {ops : Array Oper} {rest : List Oper} {o : Oper} {a : Act} {Q : Exit → Act → World → Prop}

/-- An array or struct is loaded from the middle of a block. -/
theorem exec_load_at {n : Nat} (B : AT P T n) (x : Operand) (ho : o.op = .load T x) (g k t : Nat) (cs vs : List Value) (hx : a.eval x = .pointer (some ⟨g, k, none⟩)) (hb : Blk w g t cs) (e : (cs.drop k).take n = vs) (hn : vs.length = n) :
    (execOp a.eval o).run P w = .ok (.value (.agg vs.toArray)) w := by
  obtain ⟨d, hu, hd⟩ := B.u
  subst hn
  unfold execOp
  simp only [ho, hx, Instr.loadAt, Instr.sureAddr, Sem.run_bind, Sem.run_pure, Result.andThen_ok, run_loadVar_mid w g k T vs d (hb.range k vs e) hu (by clear hb; cases d <;> simp_all [TypeDesc.isRow]) B.i]

/-- An array or struct is stored in the middle of a block. -/
theorem wp_store_at {n : Nat} (hi : (P.info? T).map (·.size) = some n) {K : Act → World → Prop} (x y : Operand) (ho : o.op = .store T x y) (g k t : Nat) (cs vs : List Value) (hx : a.eval x = .pointer (some ⟨g, k, none⟩)) (hy : a.eval y = .agg vs.toArray)
    (hb : Blk w g t cs) (hn : vs.length = n) (hf : k + n ≤ cs.length) (h1 : ∀ u ∈ vs, u.oneCell' = true)
    (h : ∀ w', Blk w' g t (splice cs k vs) → w.grownBy w' (some g) → w'.heap.size = w.heap.size → K (a.put o.dst undef) w') : o.wp P a w K Q := by
  subst hn
  refine wp_store_mid T x y ho g k vs.toArray hx hy (by simpa using hb.there k vs.length hf) (by simpa using hi) (all_oneCell_toArray h1) ?_
  exact h _ (hb.setCells k vs hf) (grownBy_setCells w g k vs) (size_setCells w g k vs)
theorem wpList_store_at {n : Nat} (hi : (P.info? T).map (·.size) = some n) (hgd : o.guard = none) (x y : Operand) (ho : o.op = .store T x y) (g k t : Nat) (cs vs : List Value) (hx : a.eval x = .pointer (some ⟨g, k, none⟩)) (hy : a.eval y = .agg vs.toArray)
    (hb : Blk w g t cs) (hn : vs.length = n) (hf : k + n ≤ cs.length) (h1 : ∀ u ∈ vs, u.oneCell' = true)
    (h : ∀ w', Blk w' g t (splice cs k vs) → w.grownBy w' (some g) → w'.heap.size = w.heap.size → wpList P ops Q rest (a.put o.dst undef) w') : wpList P ops Q (o :: rest) a w :=
  wpList_plain hgd fun _ hK => wp_store_at hi x y ho g k t cs vs hx hy hb hn hf h1 fun w' e1 e2 e3 => hK _ _ (h w' e1 e2 e3)

/-- copy(dst, src): dst lies in the middle of a block of whatever cells. -/
theorem wpList_copy_mid {S : TypeId} (B : BT P T E S) (hgd : o.guard = none) (d s : Operand) (ho : o.op = .call { callee := .builtin .copy, args := #[d, s], argTypes := #[T, T] })
    (g off dLen dCap : Nat) (A : Option Addr) (n sCap : Nat) (hd : a.eval d = .slice (some ⟨g, off, none⟩) dLen dCap) (hs : a.eval s = .slice A n sCap)
    (t : TypeId) (cs : List Value) (l : List UInt8) (hg : Blk w g t cs) (hr : Rd w A (bvs l)) (hn : l.length = n) (hfit : off + dLen ≤ cs.length)
    (h : ∀ w', Blk w' g t (splice cs off (bvs (l.take dLen))) → w.grownBy w' (some g) → w'.heap.size = w.heap.size → wpList P ops Q rest (a.put o.dst (.int .i64 (min n dLen : Nat))) w') :
    wpList P ops Q (o :: rest) a w := by
  obtain ⟨i, hi, hz, hsz, hb⟩ := info_parts B.i
  subst hn
  have hlen : (bvs (l.take dLen)).length = Nat.min l.length dLen := by
    show _ = min l.length dLen
    simp [bvs]; omega
  cases A with
  | none =>
    have hl0 : l = [] := by
      rcases Nat.eq_zero_or_pos (bvs l).length with h0 | h0
      · exact List.eq_nil_of_length_eq_zero (by simpa [bvs] using h0)
      · obtain ⟨ad, hh, _⟩ := hr h0; cases hh
    subst hl0
    refine wpList_copy_nothing hgd d s T T ho E B.t (by rw [hi]; simp [hsz]) _ _ dLen dCap _ sCap hd hs (by simp) ?_
    have := h w (by simpa [bvs, splice_nil] using hg) (World.grownBy.refl _ _) rfl
    simpa [goInt] using this
  | some ad =>
    have hsrc : ∀ j u, (bvs (l.take dLen))[j]? = some u → w.cell? (ad.add j) = some u := by
      intro j u hu
      by_cases h0 : 0 < (bvs l).length
      · obtain ⟨ad', e, hc⟩ := hr h0
        cases e
        apply hc
        have hj : j < (l.take dLen).length := by
          have := (List.getElem?_eq_some_iff.1 hu).1
          rwa [bvs_length] at this
        rw [bvs_get, List.getElem?_take_of_lt (by simp at hj; omega)] at hu
        rw [bvs_get, hu]
      · have : l = [] := List.eq_nil_of_length_eq_zero (by simpa [bvs] using h0)
        subst this
        simp [bvs] at hu
    have hfl : off + (bvs (l.take dLen)).length ≤ cs.length := by
      rw [hlen]; have : Nat.min l.length dLen ≤ dLen := Nat.min_le_right _ _; omega
    refine wpList_copy_own hgd d s T T ho E B.t (by rw [hi]; simp [hsz]) g off dLen dCap ad _ sCap hd hs cs.toArray t hg (bvs (l.take dLen)) hlen hsrc (by simpa using hfl) (bvs_one _) ?_
    have := h _ (hg.row (splice cs off (bvs (l.take dLen)))) (grownBy_setRow w g _) (by simp)
    have e : (cs.toArray.toList.take off ++ (bvs (l.take dLen) ++ cs.toArray.toList.drop (off + (bvs (l.take dLen)).length))) = splice cs off (bvs (l.take dLen)) := rfl
    rw [e, hlen]
    exact this
end

/-- An array is loaded from what can be read. -/
theorem exec_load_rd {P : Program} {T : TypeId} {n : Nat} {a : Act} {o : Oper} {w : World} (B : AT P T n) (x : Operand) (ho : o.op = .load T x) (ad : Addr) (vs : List Value) (hx : a.eval x = .pointer (some ad)) (hr : Rd w (some ad) vs) (h0 : 0 < n) (hn : vs.length = n) :
    (execOp a.eval o).run P w = .ok (.value (.agg vs.toArray)) w := by
  obtain ⟨d, hu, hd⟩ := B.u
  have hi := B.i
  subst hn
  obtain ⟨ad', e, hc⟩ := hr h0
  cases e
  have hl : (loadCells ad vs.length).run P w = .ok vs.toArray w := run_loadCells_list (P := P) w ad vs hc
  have hv : (loadVar T ad).run P w = .ok (.agg vs.toArray) w := by
    cases hq : P.info? T with
    | none => simp [hq] at hi
    | some i =>
      have hs : i.size = vs.length := by simpa [hq] using hi
      have hagg : (isAgg T).run P w = .ok true w := by
        unfold isAgg
        rw [Sem.run_bind, run_underlying hu w]
        cases d <;> simp_all
      simp [loadVar, Sem.run_bind, hagg, sizeOf, typeInfo, hq, hs, hl]
  unfold execOp
  simp only [ho, hx, Instr.loadAt, Instr.sureAddr, Sem.run_bind, Sem.run_pure, Result.andThen_ok, hv]


/-- A yielding operation that its guard lets through. -/
theorem wpList_yield_w {P : Program} {ops : Array Oper} {rest : List Oper} {o : Oper} {a : Act} {w : World} {Q : Exit → Act → World → Prop} (hw : Region.wanted o (yielded ops a.tmps) = true) (v : Value) (hr : (execOp a.eval o).run P w = .ok (.value v) w)
    (h : wpList P ops Q rest (a.put o.dst v) w) : wpList P ops Q (o :: rest) a w := by
  unfold wpList
  rw [if_pos hw]
  left
  unfold Oper.wp
  rw [hr]
  exact h

/-- '[n]T(s)': the slice is long enough. -/
theorem exec_array_at {P : Program} {arr e : TypeId} {n : Nat} {a : Act} {o : Oper} {w : World} (ht : P.underlying arr = some (.array n e)) (x : Operand) (ho : o.op = .sliceToArrayPointer arr x) (A : Option Addr) (len cap : Nat) (hx : a.eval x = .slice A len cap) (hn : n ≤ len) :
    (execOp a.eval o).run P w = .ok (.value (.pointer A)) w := by
  unfold execOp
  simp only [ho, hx, Sem.run_bind, run_arrayAt w arr e n A len cap ht hn, Result.andThen_ok, Sem.run_pure]

/-- Results: a whole variable, and a slot. -/
theorem ret_cell_tmp {P : Program} {fn : Func} {p u : Tmp} {ty n : Nat} (h : fn.results = #[.cell p ty, .tmp u]) (B : AT P ty n) (tmps : Array Value) (w : World) (g t : Nat) (vs : List Value)
    (hp : tmps.getD p undef = .pointer (some ⟨g, 0, none⟩)) (hb : Blk w g t vs) (hn : vs.length = n) : (results fn tmps).run P w = .ok (.tuple #[.agg vs.toArray, tmps.getD u undef]) w := by
  obtain ⟨d, hu, hd⟩ := B.u
  rw [results_cell_tmp h, hp]
  simp only [asAddr, Sem.run_pure, Result.andThen_ok]
  rw [run_loadVar_row w g t ty vs.toArray (0, 0) d hb hu (by clear hb; cases d <;> simp_all) (by rw [B.i]; simp [hn])]
  simp only [Result.andThen_ok]
theorem ret_cell {P : Program} {fn : Func} {p : Tmp} {ty n : Nat} (h : fn.results = #[.cell p ty]) (B : AT P ty n) (tmps : Array Value) (w : World) (g t : Nat) (vs : List Value)
    (hp : tmps.getD p undef = .pointer (some ⟨g, 0, none⟩)) (hb : Blk w g t vs) (hn : vs.length = n) : (results fn tmps).run P w = .ok (.agg vs.toArray) w := by
  obtain ⟨d, hu, hd⟩ := B.u
  exact results_cell_row h tmps w g t vs.toArray (0, 0) d hp hb hu (by clear hb; cases d <;> simp_all) (by rw [B.i]; simp [hn])
end Go.Proofs.Ytehbahobkgoapaa
