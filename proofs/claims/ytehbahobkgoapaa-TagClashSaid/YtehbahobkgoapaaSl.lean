/- Laws of the walk: slices cut at whatever address, a slice made of one-cell elements, a load and a store in a block. Each holds for every program with the types it names. -/
import Derived.Test.YtehbahobkgoapaaBy
namespace Go.Proofs.Ytehbahobkgoapaa
open Go Go.RowKit
set_option linter.unusedSimpArgs false
set_option linter.unusedVariables false

/-- Where x[lo:] begins, x of capacity c at A, z cells an element. -/
def cutA (A : Option Addr) (c lo z : Nat) : Option Addr := if c = lo then A else A.map (·.add (lo * z))

/-- T is a slice type of elements of z cells. -/
structure ST (P : Program) (T E z : Nat) : Prop where
  t : P.underlying T = some (.slice E)
  i : (P.info? E).map (fun i => i.size) = some z

theorem BT.st {P : Program} {T E S : TypeId} (B : BT P T E S) : ST P T E 1 := ⟨B.t, by
  obtain ⟨i, hi, _, hs, _⟩ := info_parts B.i
  rw [hi]; simp [hs]⟩

section
variable {P : Program} {T E z : Nat} {w : World} {ops : Array Oper} {rest : List Oper} {o : Oper} {a : Act} {Q : Exit → Act → World → Prop}

theorem ST.size (B : ST P T E z) : (sizeOf E).run P w = .ok z w := by
  have h := B.i
  cases hq : P.info? E with
  | none => simp [hq] at h
  | some i =>
    simp [hq] at h
    simp [sizeOf, typeInfo, hq, h]

theorem run_slice_to (B : ST P T E z) (A : Option Addr) (n c h : Nat) (k : IntKind) (hh : h ≤ c) : (Instr.slice T (.slice A n c) none (some (.int k (h : Int))) none).run P w = .ok (.slice A h c) w := by
  have e : P.elem T = E := by simp [Program.elem, B.t]
  rw [run_slice_h w T A n c (by rw [e]; exact B.t) k h (by omega) (by omega), e, B.size]
  simp only [Result.andThen, sliced]
  have : (if c = 0 then A else A.map (·.add (0 * z))) = A := by
    split
    · rfl
    · cases A <;> simp [Addr.add]
  simp only [Int.toNat_natCast, this, Nat.sub_zero]

theorem run_slice_from (B : ST P T E z) (A : Option Addr) (n c l : Nat) (k : IntKind) (hl : l ≤ n) : (Instr.slice T (.slice A n c) (some (.int k (l : Int))) none none).run P w = .ok (.slice (cutA A c l z) (n - l) (c - l)) w := by
  have e : P.elem T = E := by simp [Program.elem, B.t]
  rw [run_slice_l w T A n c (by rw [e]; exact B.t) k l (by omega) (by omega), e, B.size]
  simp [Result.andThen, sliced, cutA]

theorem run_slice_mid (B : ST P T E z) (A : Option Addr) (n c l h : Nat) (k k' : IntKind) (hl : l ≤ h) (hh : h ≤ c) : (Instr.slice T (.slice A n c) (some (.int k (l : Int))) (some (.int k' (h : Int))) none).run P w = .ok (.slice (cutA A c l z) (h - l) (c - l)) w := by
  have e : P.elem T = E := by simp [Program.elem, B.t]
  rw [run_slice_lh w T A n c (by rw [e]; exact B.t) k k' l h (by omega) (by omega) (by omega), e, B.size]
  simp [Result.andThen, sliced, cutA]

theorem exec_slice_to (B : ST P T E z) (x hi : Operand) (ho : o.op = .slice T x none (some hi) none) (A : Option Addr) (n c h : Nat) (k : IntKind) (hx : a.eval x = .slice A n c) (hh : a.eval hi = .int k (h : Int)) (hb : h ≤ c) :
    (execOp a.eval o).run P w = .ok (.value (.slice A h c)) w := by
  have hr := run_slice_to (w := w) B A n c h k hb
  have e : P.elem T = E := by simp [Program.elem, B.t]
  unfold execOp
  simp only [ho, hx, Option.map_some, hh, Option.map_none, Sem.run_bind, run_sliceAt_slice w T _ _ _ _ (by rw [e]; exact B.t), hr, Result.andThen_ok, Sem.run_pure]

theorem exec_slice_from (B : ST P T E z) (x lo : Operand) (ho : o.op = .slice T x (some lo) none none) (A : Option Addr) (n c l : Nat) (k : IntKind) (hx : a.eval x = .slice A n c) (hh : a.eval lo = .int k (l : Int)) (hb : l ≤ n) :
    (execOp a.eval o).run P w = .ok (.value (.slice (cutA A c l z) (n - l) (c - l))) w := by
  have hr := run_slice_from (w := w) B A n c l k hb
  have e : P.elem T = E := by simp [Program.elem, B.t]
  unfold execOp
  simp only [ho, hx, Option.map_some, hh, Option.map_none, Sem.run_bind, run_sliceAt_slice w T _ _ _ _ (by rw [e]; exact B.t), hr, Result.andThen_ok, Sem.run_pure]

theorem exec_slice_mid (B : ST P T E z) (x lo hi : Operand) (ho : o.op = .slice T x (some lo) (some hi) none) (A : Option Addr) (n c l h : Nat) (k k' : IntKind) (hx : a.eval x = .slice A n c) (hl : a.eval lo = .int k (l : Int)) (hh : a.eval hi = .int k' (h : Int))
    (h1 : l ≤ h) (h2 : h ≤ c) : (execOp a.eval o).run P w = .ok (.value (.slice (cutA A c l z) (h - l) (c - l))) w := by
  have hr := run_slice_mid (w := w) B A n c l h k k' h1 h2
  have e : P.elem T = E := by simp [Program.elem, B.t]
  unfold execOp
  simp only [ho, hx, Option.map_some, hh, hl, Option.map_none, Sem.run_bind, run_sliceAt_slice w T _ _ _ _ (by rw [e]; exact B.t), hr, Result.andThen_ok, Sem.run_pure]

/-- A yielding operation in a plain region. -/
theorem wpList_yield (hgd : o.guard = none) (v : Value) (hr : (execOp a.eval o).run P w = .ok (.value v) w) (h : wpList P ops Q rest (a.put o.dst v) w) : wpList P ops Q (o :: rest) a w := by
  refine wpList_plain hgd fun K hK => ?_
  unfold Oper.wp
  rw [hr]
  exact hK _ _ h

theorem cutA_zero (A : Option Addr) (c z : Nat) : cutA A c 0 z = A := by
  unfold cutA
  split
  · rfl
  · cases A <;> simp [Addr.add]

theorem Rd.cutA {A : Option Addr} {cs : List Value} {c lo z : Nat} (h : Rd w A cs) (hc : cs.length ≤ c * z) (m : Nat) : Rd w (cutA A c lo z) ((cs.drop (lo * z)).take m) := by
  unfold Ytehbahobkgoapaa.cutA
  split
  · rename_i e
    subst e
    intro hn
    simp at hn
    omega
  · exact h.cut _ _

/-- make([]T, n, c), T of one cell. -/
theorem wpList_make_one {e : TypeId} {zv : Value} {b : Nat} (ht : P.underlying T = some (.slice e)) (hi : (P.info? e).map (fun i => (i.zero, i.size, i.bytes)) = some (some zv, 1, b)) (hz : zv.cells = #[zv])
    (hgd : o.guard = none) (l c : Operand) (ho : o.op = Op.makeSlice T l c) (kl kc : IntKind) (n m : Nat) (hl : a.eval l = .int kl n) (hc : a.eval c = .int kc m) (hnm : n ≤ m) (hm : b * m ≤ 281474976710656) (h63 : m ≤ maxLen)
    (h : ∀ w', Blk w' w.heap.size e (List.replicate m zv) → Below w.heap.size w w' → w'.heap.size = w.heap.size + 1 → wpList P ops Q rest (a.put o.dst (.slice (some ⟨w.heap.size, 0, none⟩) n m)) w') : wpList P ops Q (o :: rest) a w := by
  obtain ⟨i, hi, hzero, hs, hb⟩ := info_parts hi
  unfold maxLen at h63
  refine wpList_plain hgd fun K hK => ?_
  have hbm : (i.bytes : Int) * (m : Int) ≤ 281474976710656 := by
    have : ((i.bytes * m : Nat) : Int) ≤ 281474976710656 := by rw [hb]; omega
    rwa [Int.natCast_mul] at this
  have hr := run_make (P := P) w T e i _ ht hi hzero kl kc n m (by omega) (by omega) hbm (by omega)
  have em : madeCells zv.cells ((m : Int).toNat * i.size) = (List.replicate m zv).toArray := by
    rw [hs, hz]
    apply Array.ext'
    apply List.ext_getElem?
    intro j
    simp [madeCells, List.getElem?_replicate]
    by_cases h : j < m
    · simp [h, Nat.mod_one]
    · simp [h]
  rw [em] at hr
  unfold Oper.wp
  simp [execOp, ho, hl, hc, hr, Result.andThen]
  exact hK _ _ (h _ (Blk.new _ _ _) ((Below.refl _ _).alloc (Nat.le_refl _) _) (by simp))

/-- E has z cells, b bytes, the zero value zv. -/
structure ET (P : Program) (E : TypeId) (zv : Value) (z b : Nat) : Prop where
  i : (P.info? E).map (fun i => (i.zero, i.size, i.bytes)) = some (some zv, z, b)
  c : zv.cells.size = z
  p : 0 < z

theorem ownsRow_of_blk {w : World} {g : Nat} {e : TypeId} {xs : List Value} (base z n : Nat) (h : Blk w g e xs) (hb : base ≤ g) (hn : xs.length = n * z) (hm : n ≤ maxLen) :
    w.ownsRow base e z (.slice (some ⟨g, 0, none⟩) n n) n xs :=
  ⟨hn, .inr ⟨g, n, xs.toArray, rfl, hb, h, Nat.le_refl _, hm, by simpa using hn, by rw [← hn]; simp⟩⟩

theorem ownsRow_rd {w : World} {base e z n : Nat} {v : Value} {xs : List Value} (h : w.ownsRow base e z v n xs) : ∃ A c, v = .slice A n c ∧ n ≤ c ∧ c ≤ maxLen ∧ Rd w A xs := by
  obtain ⟨hl, h⟩ := h
  rcases h with ⟨rfl, rfl⟩ | ⟨g, cap, cur, rfl, hg, hh, hn, hm, hs, ht⟩
  · have : xs = [] := List.eq_nil_of_length_eq_zero (by simpa using hl)
    subst this
    exact ⟨none, 0, rfl, Nat.le_refl _, by simp, Rd.nil _ _⟩
  · have hb : Blk w g e cur.toList := by simpa [Blk] using hh
    refine ⟨_, cap, rfl, hn, hm, ?_⟩
    rw [← ht]
    have := Rd.of_blk hb 0 (n * z) (by simp; rw [hs]; exact Nat.mul_le_mul_right _ hn)
    simpa using this

/-- append(s, x...): s of the call's own, x read. -/
theorem wpList_append_row {zv : Value} {b : Nat} (ht : P.underlying T = some (.slice E)) (I : ET P E zv z b) (hgd : o.guard = none) (s x : Operand) (ho : o.op = .call { callee := .builtin .append, args := #[s, x], argTypes := #[T, T] })
    (base : Nat) (v : Value) (n : Nat) (xs : List Value) (hs : a.eval s = v) (hown : w.ownsRow base E z v n xs) (A : Option Addr) (m c : Nat) (ys : List Value) (hx : a.eval x = .slice A m c) (hy : ys.length = m * z) (hr : Rd w A ys)
    (h1 : ∀ u ∈ ys, u.oneCell' = true) (h63 : n + m ≤ maxLen) (hbytes : (n + m) * b ≤ 140737488355328) (hbase : base ≤ w.heap.size)
    (h : ∀ v' w', w'.ownsRow base E z v' (n + m) (xs ++ ys) → w.grownBy w' v.ownBlock → wpList P ops Q rest (a.put o.dst v') w') : wpList P ops Q (o :: rest) a w := by
  obtain ⟨i, hi, hz, hsz, hb⟩ := info_parts I.i
  by_cases h0 : ys = []
  · subst h0
    have hm : m = 0 := by
      have h2 : m * z = 0 := hy.symm
      rcases Nat.mul_eq_zero.1 h2 with h3 | h3
      · exact h3
      · have := I.p; omega
    subst hm
    have hst : ∀ ad : Addr, (storeCells ad []).run P w = .ok () w := fun ad => rfl
    have hrun : (Builtin.append_ #[T, T] o.type #[v, .slice A 0 c]).run P w = .ok v w := by
      rcases hown.2 with ⟨rfl, rfl⟩ | ⟨g, cap, cur, rfl, hg, hh, hn, hm, hs, ht'⟩
      · cases A <;> simp [Builtin.append_, run_underlying ht, sizeOf, typeInfo, hi, Builtin.lenOf, Builtin.firstCells, loadCells, loadCellsFrom]
      · cases A <;> simp [Builtin.append_, run_underlying ht, sizeOf, typeInfo, hi, Builtin.lenOf, Builtin.firstCells, loadCells, loadCellsFrom, storeCells, hn]
    refine wpList_plain hgd fun K hK => ?_
    unfold Oper.wp execOp
    simp only [ho, resolve, invoke, builtin, Sem.run_bind, Sem.run_pure, Result.andThen_ok, List.map_toArray, List.map_cons, List.map_nil, hs, hx, hrun]
    exact hK _ _ (h v w (by simpa using hown) (World.grownBy.refl _ _))
  · obtain ⟨ad, rfl, hc⟩ := hr (List.length_pos_iff.2 h0)
    exact wpList_append_own w hgd s x T ho base E i zv z b ht hi hz hsz hb I.c I.p v n xs hs hown ad m c ys hx hy hc h1 h63 hbytes hbase fun v' w' h2 h3 _ => h v' w' h2 h3

/-- T is a struct or an array of n cells. -/
structure AT (P : Program) (T : TypeId) (n : Nat) : Prop where
  u : ∃ d, P.underlying T = some d ∧ (match d with | .struct _ | .array _ _ => true | _ => false) = true
  i : (P.info? T).map (·.size) = some n

/-- A whole array or struct is loaded. -/
theorem exec_load_agg {n : Nat} (B : AT P T n) (x : Operand) (ho : o.op = .load T x) (g t : Nat) (cs : List Value) (hx : a.eval x = .pointer (some ⟨g, 0, none⟩)) (hb : Blk w g t cs) (hn : cs.length = n) :
    (execOp a.eval o).run P w = .ok (.value (.agg cs.toArray)) w := by
  obtain ⟨d, hu, hd⟩ := B.u
  unfold execOp
  simp only [ho, hx, Instr.loadAt, Instr.sureAddr, Sem.run_bind, Sem.run_pure, Result.andThen_ok, run_loadVar_row w g t T cs.toArray (0, 0) d hb hu (by clear hb; cases d <;> simp_all) (by rw [B.i]; simp [hn])]

/-- A byte slice that can be read. -/
def Sl1 (w : World) (v : Value) (l : List UInt8) : Prop := ∃ A c, v = .slice A l.length c ∧ l.length ≤ c ∧ Rd w A (bvs l)
theorem Sl1.below {w w' : World} {v : Value} {l : List UInt8} (h : Sl1 w v l) (hb : Below w.heap.size w w') : Sl1 w' v l := by
  obtain ⟨A, c, e, hc, hr⟩ := h
  exact ⟨A, c, e, hc, hr.below hb⟩
theorem Sl1.one {w : World} {v : Value} {l : List UInt8} (h : Sl1 w v l) : v.oneCell' = true := by
  obtain ⟨A, c, rfl, _⟩ := h
  rfl
theorem OwnB.sl1 {w : World} {base E : Nat} {v : Value} {l : List UInt8} (h : OwnB w base E v l) : Sl1 w v l := by
  obtain ⟨A, c, e, hc, _, hr⟩ := h.rd
  exact ⟨A, c, e, hc, hr⟩
/-- Byte slices that can be read, one by one. -/
def AllRd (w : World) (vs : List Value) (ls : List (List UInt8)) : Prop := vs.length = ls.length ∧ ∀ (i : Nat) (v : Value) (l : List UInt8), vs[i]? = some v → ls[i]? = some l → Sl1 w v l
theorem AllRd.nil (w : World) : AllRd w [] [] := ⟨rfl, fun i v l h => by simp at h⟩
theorem AllRd.cons {w : World} {v : Value} {l : List UInt8} {vs : List Value} {ls : List (List UInt8)} (h : Sl1 w v l) (hs : AllRd w vs ls) : AllRd w (v :: vs) (l :: ls) :=
  ⟨by simp [hs.1], fun i u k hu hk => by
    cases i with
    | zero => simp at hu hk; subst hu; subst hk; exact h
    | succ i => exact hs.2 i u k (by simpa using hu) (by simpa using hk)⟩
theorem AllRd.append {w : World} {vs us : List Value} {ls ks : List (List UInt8)} (h : AllRd w vs ls) (hs : AllRd w us ks) : AllRd w (vs ++ us) (ls ++ ks) := by
  induction vs generalizing ls with
  | nil =>
    have : ls = [] := List.eq_nil_of_length_eq_zero (by simpa using h.1.symm)
    subst this
    simpa using hs
  | cons v vs ih =>
    cases ls with
    | nil => have := h.1; simp at this
    | cons l ls =>
      refine AllRd.cons (h.2 0 v l rfl rfl) (ih ⟨by simpa using h.1, fun i u k hu hk => h.2 (i + 1) u k (by simpa using hu) (by simpa using hk)⟩)
theorem AllRd.below {w w' : World} {vs : List Value} {ls : List (List UInt8)} (h : AllRd w vs ls) (hb : Below w.heap.size w w') : AllRd w' vs ls := ⟨h.1, fun i v l hv hl => (h.2 i v l hv hl).below hb⟩
theorem AllRd.one {w : World} {vs : List Value} {ls : List (List UInt8)} (h : AllRd w vs ls) : ∀ u ∈ vs, u.oneCell' = true := by
  intro u hu
  obtain ⟨i, hi, rfl⟩ := List.mem_iff_getElem.1 hu
  exact (h.2 i _ (ls[i]'(by rw [← h.1]; exact hi)) (List.getElem?_eq_getElem hi) (List.getElem?_eq_getElem (by rw [← h.1]; exact hi))).one
end
end Go.Proofs.Ytehbahobkgoapaa
