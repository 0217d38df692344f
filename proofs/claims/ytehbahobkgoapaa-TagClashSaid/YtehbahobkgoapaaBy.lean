/- Laws of the walk for byte slices over the words of Mem: make, copy, append, conversion to a string. Each holds for every program with the types T ([]byte), E (byte), S (string). -/
import Derived.Test.YtehbahobkgoapaaMem
namespace Go.Proofs.Ytehbahobkgoapaa
open Go Go.RowKit

/-- T is []byte, E is byte, S is string. -/
structure BT (P : Program) (T E S : TypeId) : Prop where
  t : P.underlying T = some (.slice E)
  e : P.underlying E = some (.int .u8)
  s : P.underlying S = some .string
  i : (P.info? E).map (fun i => (i.zero, i.size, i.bytes)) = some (some (.int .u8 0), 1, 1)

section
variable {P : Program} {T E S : TypeId} {w : World} {ops : Array Oper} {rest : List Oper} {o : Oper} {a : Act} {Q : Exit → Act → World → Prop}

theorem madeBytes (n : Nat) : madeCells (Value.int .u8 0).cells n = (bvs (List.replicate n 0)).toArray := by
  apply Array.ext'
  apply List.ext_getElem?
  intro j
  simp [madeCells, bvs, bv, Value.cells, List.getElem?_replicate]
  by_cases h : j < n
  · simp [h, Nat.mod_one]
  · simp [h]

/-- make([]byte, n, c) -/
theorem run_make_bytes (B : BT P T E S) (kl kc : IntKind) (n c : Nat) (hnc : n ≤ c) (hc : c ≤ 281474976710656) :
    (Instr.makeSlice T (.int kl n) (.int kc c)).run P w = .ok (.slice (some ⟨w.heap.size, 0, none⟩) n c) (w.alloc (.cells (bvs (List.replicate c 0)).toArray E)) := by
  obtain ⟨i, hi, hz, hs, hb⟩ := info_parts B.i
  have hr := run_make (P := P) w T E i _ B.t hi hz kl kc n c (by omega) (by omega) (by rw [hb]; omega) (by omega)
  rw [hs, madeBytes] at hr
  simpa using hr

theorem wpList_make_bytes (B : BT P T E S) (hgd : o.guard = none) (l c : Operand) (ho : o.op = Op.makeSlice T l c) (kl kc : IntKind) (n m : Nat) (hl : a.eval l = .int kl n) (hc : a.eval c = .int kc m)
    (hnc : n ≤ m) (hm : m ≤ 281474976710656)
    (h : ∀ w', Blk w' w.heap.size E (bvs (List.replicate m 0)) → Below w.heap.size w w' → w'.heap.size = w.heap.size + 1 → wpList P ops Q rest (a.put o.dst (.slice (some ⟨w.heap.size, 0, none⟩) n m)) w') : wpList P ops Q (o :: rest) a w := by
  refine wpList_plain hgd fun K hK => ?_
  have hr := run_make_bytes (w := w) B kl kc n m hnc hm
  unfold Oper.wp
  simp [execOp, ho, hl, hc, hr, Result.andThen]
  exact hK _ _ (h _ (Blk.new _ _ _) ((Below.refl _ _).alloc (Nat.le_refl _) _) (by simp))

theorem grownBy_setRow (w : World) (g : Nat) (cs : Array Value) : w.grownBy (w.setRow g cs) (some g) :=
  ⟨rfl, rfl, rfl, by simp, fun k _ hne => setRow_other w g k cs (fun e => hne (by rw [e]))⟩

/-- copy(dst, src): dst lies in a block that is known whole. -/
theorem wpList_copy_bytes (B : BT P T E S) (hgd : o.guard = none) (d s : Operand) (ho : o.op = .call { callee := .builtin .copy, args := #[d, s], argTypes := #[T, T] })
    (g off dLen dCap : Nat) (A : Option Addr) (n sCap : Nat) (hd : a.eval d = .slice (some ⟨g, off, none⟩) dLen dCap) (hs : a.eval s = .slice A n sCap)
    (t : TypeId) (L l : List UInt8) (hg : Blk w g t (bvs L)) (hr : Rd w A (bvs l)) (hn : l.length = n) (hfit : off + dLen ≤ L.length)
    (h : ∀ w', Blk w' g t (bvs (L.take off ++ l.take (min n dLen) ++ L.drop (off + min n dLen))) → w.grownBy w' (some g) → w'.heap.size = w.heap.size → wpList P ops Q rest (a.put o.dst (.int .i64 (min n dLen : Nat))) w') :
    wpList P ops Q (o :: rest) a w := by
  obtain ⟨i, hi, hz, hsz, hb⟩ := info_parts B.i
  have hlen : (bvs (l.take (min n dLen))).length = Nat.min n dLen := by
    show _ = min n dLen
    simp [bvs]; omega
  cases A with
  | none =>
    have hl0 : l = [] := by
      rcases Nat.eq_zero_or_pos (bvs l).length with h0 | h0
      · exact List.eq_nil_of_length_eq_zero (by simpa [bvs] using h0)
      · obtain ⟨ad, hh, _⟩ := hr h0; cases hh
    subst hl0
    subst hn
    refine wpList_copy_nothing hgd d s T T ho E B.t (by rw [hi]; simp [hsz]) _ _ dLen dCap _ sCap hd hs (by simp) ?_
    have := h w (by simpa using hg) (World.grownBy.refl _ _) rfl
    simpa [goInt] using this
  | some ad =>
    have hsrc : ∀ j u, (bvs (l.take (min n dLen)))[j]? = some u → w.cell? (ad.add j) = some u := by
      intro j u hu
      by_cases h0 : 0 < (bvs l).length
      · obtain ⟨ad', e, hc⟩ := hr h0
        cases e
        apply hc
        have hj : j < min n dLen := by
          have := (List.getElem?_eq_some_iff.1 hu).1
          rw [hlen] at this
          exact this
        rw [bvs_get, List.getElem?_take_of_lt hj] at hu
        rw [bvs_get, hu]
      · have : l = [] := List.eq_nil_of_length_eq_zero (by simpa [bvs] using h0)
        subst this
        simp [bvs] at hu
    refine wpList_copy_own hgd d s T T ho E B.t (by rw [hi]; simp [hsz]) g off dLen dCap ad n sCap hd hs (bvs L).toArray t hg (bvs (l.take (min n dLen))) hlen hsrc (by rw [hlen]; simp [bvs]; have : Nat.min n dLen ≤ dLen := Nat.min_le_right _ _; omega) (bvs_one _) ?_
    have e : ((bvs L).toArray.toList.take off ++ (bvs (l.take (min n dLen)) ++ (bvs L).toArray.toList.drop (off + (bvs (l.take (min n dLen))).length))) = bvs (L.take off ++ l.take (min n dLen) ++ L.drop (off + min n dLen)) := by
      rw [hlen]
      simp only [bvs, List.map_append, List.map_take, List.map_drop, List.append_assoc]
    rw [e]
    have := h _ (hg.row _) (grownBy_setRow w g _) (by simp)
    rw [hlen]
    exact this

/-- A byte slice of the call's own: nil; or at the head of a block from base on, its spare room bytes too. -/
def OwnB (w : World) (base : Nat) (E : TypeId) (v : Value) (l : List UInt8) : Prop :=
  (v = .slice none 0 0 ∧ l = []) ∨ ∃ (g : Nat) (sp : List UInt8), v = .slice (some ⟨g, 0, none⟩) l.length (l.length + sp.length) ∧ base ≤ g ∧ l.length + sp.length ≤ maxLen ∧ Blk w g E (bvs (l ++ sp))

theorem OwnB.nil (w : World) (base : Nat) (E : TypeId) : OwnB w base E (.slice none 0 0) [] := .inl ⟨rfl, rfl⟩
theorem OwnB.rd {base : Nat} {v : Value} {l : List UInt8} (h : OwnB w base E v l) : ∃ A c, v = .slice A l.length c ∧ l.length ≤ c ∧ c ≤ maxLen ∧ Rd w A (bvs l) := by
  rcases h with ⟨rfl, rfl⟩ | ⟨g, sp, rfl, _, hm, hb⟩
  · exact ⟨none, 0, rfl, by simp, by simp, Rd.nil _ _⟩
  · rw [bvs_append] at hb
    exact ⟨_, _, rfl, by omega, hm, Rd.of_blk0 hb⟩
theorem OwnB.below {w' : World} {base B : Nat} {v : Value} {l : List UInt8} (h : OwnB w base E v l) (hb : Below B w w') (hB : w.heap.size ≤ B) : OwnB w' base E v l := by
  rcases h with h | ⟨g, sp, e, hg, hm, hk⟩
  · exact .inl h
  · exact .inr ⟨g, sp, e, hg, hm, hk.below hb (by have := hk.lt; omega)⟩
theorem OwnB.grown {w' : World} {base : Nat} {row : Option Nat} {v : Value} {l : List UInt8} (h : OwnB w base E v l) (hb : w.grownBy w' row) (hr : ∀ k, row = some k → v.ownBlock ≠ some k) : OwnB w' base E v l := by
  rcases h with h | ⟨g, sp, rfl, hg, hm, hk⟩
  · exact .inl h
  · exact .inr ⟨g, sp, rfl, hg, hm, hk.grown hb (fun e => hr g e.symm rfl)⟩
theorem OwnB.mono {base base' : Nat} {v : Value} {l : List UInt8} (h : OwnB w base E v l) (hb : base' ≤ base) : OwnB w base' E v l := by
  rcases h with h | ⟨g, sp, e, hg, hm, hk⟩
  · exact .inl h
  · exact .inr ⟨g, sp, e, by omega, hm, hk⟩
theorem OwnB.lt {base : Nat} {v : Value} {l : List UInt8} (h : OwnB w base E v l) : ∀ k, v.ownBlock = some k → base ≤ k ∧ k < w.heap.size := by
  rcases h with ⟨rfl, rfl⟩ | ⟨g, sp, rfl, hg, hm, hk⟩
  · intro k hk; simp [Value.ownBlock] at hk
  · intro k he
    simp [Value.ownBlock] at he
    subst he
    exact ⟨hg, hk.lt⟩

theorem zeroBytes (n : Nat) : (Builtin.zeroCells (Value.int .u8 0).cells n) = (bvs (List.replicate n 0)).toArray := by
  have : Builtin.zeroCells (Value.int .u8 0).cells n = madeCells (Value.int .u8 0).cells n := by
    simp [Builtin.zeroCells, madeCells, Value.cells]
  rw [this, madeBytes]

/-- append(s, x...): s of the call's own, x read. -/
theorem run_append_bytes (B : BT P T E S) (ty : TypeId) (base : Nat) (v : Value) (l : List UInt8) (hown : OwnB w base E v l) (A : Option Addr) (m c : Nat) (x : List UInt8) (hx : x.length = m) (hr : Rd w A (bvs x))
    (hbytes : l.length + m ≤ 140737488355328) (hbase : base ≤ w.heap.size) :
    ∃ v' w', (Builtin.append_ #[T, T] ty #[v, .slice A m c]).run P w = .ok v' w' ∧ OwnB w' base E v' (l ++ x) ∧ w.grownBy w' v.ownBlock ∧ (v'.ownBlock = v.ownBlock ∨ v'.ownBlock = some w.heap.size) := by
  obtain ⟨i, hi, hz, hsz, hb⟩ := info_parts B.i
  subst hx
  have hml : (maxLen : Nat) = 9223372036854775807 := rfl
  by_cases h0 : x = []
  · subst h0
    refine ⟨v, w, ?_, by simpa using hown, World.grownBy.refl _ _, .inl rfl⟩
    have hst : ∀ ad : Addr, (storeCells ad []).run P w = .ok () w := fun ad => rfl
    rcases hown with ⟨rfl, rfl⟩ | ⟨g, sp, rfl, hg, hm, hk⟩
    · cases A <;> simp [Builtin.append_, run_underlying B.t, sizeOf, typeInfo, hi, Builtin.lenOf, Builtin.firstCells, loadCells, loadCellsFrom]
    · cases A <;> simp [Builtin.append_, run_underlying B.t, sizeOf, typeInfo, hi, Builtin.lenOf, Builtin.firstCells, loadCells, loadCellsFrom, storeCells]
  · have hpos : 0 < x.length := List.length_pos_iff.2 h0
    obtain ⟨ad, rfl, hc⟩ := hr (by rw [bvs_length]; exact hpos)
    have hgc : ∀ old, grownCap w (l.length + x.length) old E ≤ maxLen := fun old => grownCap_le_maxLen w _ old E (by omega)
    have hge : ∀ old, l.length + x.length ≤ grownCap w (l.length + x.length) old E := fun old => grownCap_ge w _ old E
    have fin : ∀ (old : Nat) (row : Option Nat),
        OwnB (w.drew.alloc (.cells ((bvs l).toArray ++ (bvs x).toArray ++ Builtin.zeroCells (Value.int .u8 0).cells (grownCap w (l.length + x.length) old E - (l.length + x.length))) E)) base E
          (.slice (some ⟨w.heap.size, 0, none⟩) (l.length + x.length) (grownCap w (l.length + x.length) old E)) (l ++ x) ∧
        w.grownBy (w.drew.alloc (.cells ((bvs l).toArray ++ (bvs x).toArray ++ Builtin.zeroCells (Value.int .u8 0).cells (grownCap w (l.length + x.length) old E - (l.length + x.length))) E)) row := by
      intro old row
      refine ⟨.inr ⟨w.heap.size, List.replicate (grownCap w (l.length + x.length) old E - (l.length + x.length)) 0, ?_, hbase, ?_, ?_⟩, ⟨rfl, rfl, rfl, by simp, fun k hk _ => Below.heap_alloc w.drew _ k (by simpa using hk)⟩⟩
      · have := hge old
        simp only [List.length_append, List.length_replicate]
        congr 1; omega
      · have := hge old; have := hgc old
        simp only [List.length_append, List.length_replicate]
        omega
      · have := Blk.new w.drew E (bvs l ++ bvs x ++ bvs (List.replicate (grownCap w (l.length + x.length) old E - (l.length + x.length)) 0))
        rw [zeroBytes, List.append_toArray, List.append_toArray]
        simp only [bvs_append]
        exact this
    rcases hown with ⟨rfl, rfl⟩ | ⟨g, sp, rfl, hg, hm, hk⟩
    · have hr := run_append_nil (P := P) w T ty E i _ B.t hi hz ad x.length c (bvs x) (by simp [bvs, hsz]) hc hpos (by omega) (by rw [hb]; simp only [List.length_nil, Nat.zero_add] at hbytes; omega)
      have hf := fin 0 (Value.ownBlock (.slice none 0 0))
      simp only [List.length_nil, Nat.zero_add, List.nil_append, bvs, List.map_nil, Array.empty_append] at hf hr ⊢
      exact ⟨_, _, hr, hf.1, hf.2, .inr rfl⟩
    · by_cases hroom : x.length ≤ sp.length
      · have hrun := run_append_room (P := P) w T ty E i B.t hi g l.length (l.length + sp.length) (bvs (l ++ sp)).toArray hk ad x.length c (bvs x) (by simp [bvs, hsz]) hc (bvs_one _) (by omega) (by simp [bvs, hsz]; omega)
        refine ⟨_, _, hrun, .inr ⟨g, sp.drop x.length, ?_, hg, ?_, ?_⟩, grownBy_setRow w g _, .inl rfl⟩
        · simp only [List.length_append, List.length_drop]
          congr 1; omega
        · simp only [List.length_append, List.length_drop]
          omega
        · have := hk.row (bvs (l ++ x ++ sp.drop x.length))
          have e : ((bvs (l ++ sp)).toArray.toList.take (l.length * i.size) ++ bvs x ++ (bvs (l ++ sp)).toArray.toList.drop (l.length * i.size + (bvs x).length)) = bvs (l ++ x ++ sp.drop x.length) := by
            simp only [bvs, hsz, List.map_append, Nat.mul_one, List.length_map]
            congr 1
            · congr 1
              exact List.take_left' (by simp)
            · rw [List.drop_append, List.map_drop]; simp
          rw [e]; exact this
      · have hl : Rd w (some ⟨g, 0, none⟩) (bvs l) := by rw [bvs_append] at hk; exact Rd.of_blk0 hk
        have holds : ∀ j u, (bvs l)[j]? = some u → w.cell? ((⟨g, 0, none⟩ : Addr).add j) = some u := by
          intro j u hu
          obtain ⟨ad', e, hc'⟩ := hl (by have := (List.getElem?_eq_some_iff.1 hu).1; omega)
          cases e
          exact hc' j u hu
        have hr := run_append_grow (P := P) w T ty E i _ B.t hi hz ⟨g, 0, none⟩ l.length (l.length + sp.length) (bvs l) (by simp [bvs, hsz]) holds ad x.length c (bvs x) (by simp [bvs, hsz]) hc (by omega) (by omega) (growslice_fits (by omega) (by rw [hb]; omega))
        have hf := fin (l.length + sp.length) (Value.ownBlock (.slice (some ⟨g, 0, none⟩) l.length (l.length + sp.length)))
        exact ⟨_, _, hr, hf.1, hf.2, .inr rfl⟩

theorem wpList_append_bytes (B : BT P T E S) (hgd : o.guard = none) (s x : Operand) (ho : o.op = .call { callee := .builtin .append, args := #[s, x], argTypes := #[T, T] })
    (base : Nat) (v : Value) (l : List UInt8) (hs : a.eval s = v) (hown : OwnB w base E v l) (A : Option Addr) (m c : Nat) (y : List UInt8) (hx : a.eval x = .slice A m c) (hy : y.length = m) (hr : Rd w A (bvs y))
    (hbytes : l.length + m ≤ 140737488355328) (hbase : base ≤ w.heap.size)
    (h : ∀ v' w', OwnB w' base E v' (l ++ y) → w.grownBy w' v.ownBlock → (v'.ownBlock = v.ownBlock ∨ v'.ownBlock = some w.heap.size) → wpList P ops Q rest (a.put o.dst v') w') : wpList P ops Q (o :: rest) a w := by
  obtain ⟨v', w', hrun, h1, h2, h3⟩ := run_append_bytes B o.type base v l hown A m c y hy hr hbytes hbase
  refine wpList_plain hgd fun K hK => ?_
  unfold Oper.wp execOp
  simp only [ho, resolve, invoke, builtin, Sem.run_bind, Sem.run_pure, Result.andThen_ok, List.map_toArray, List.map_cons, List.map_nil, hs, hx, hrun]
  exact hK _ _ (h v' w' h1 h2 h3)

/-- string(b) -/
theorem run_bytes_string (B : BT P T E S) (A : Option Addr) (n c : Nat) (l : List UInt8) (hr : Rd w A (bvs l)) (hl : l.length = n) : (convert T S (.slice A n c)).run P w = .ok (.string ⟨l.toArray⟩) w := by
  rw [run_convert_bytes_string w T S E A n c B.t B.e B.s]
  subst hl
  by_cases h0 : l = []
  · subst h0
    cases A with
    | none => simp [Conv.bytesToString]; rfl
    | some ad => simp [Conv.bytesToString, loadCells, loadCellsFrom]; rfl
  · obtain ⟨ad, rfl, hc⟩ := hr (by rw [bvs_length]; exact List.length_pos_iff.2 h0)
    have hload := run_loadCells_list (P := P) w ad (bvs l) hc
    rw [bvs_length] at hload
    have e : bvs l = (l.map fun x : UInt8 => (x.toNat : Int)).map (Value.int .u8) := by simp [bvs, bv]
    rw [e] at hload
    rw [run_bytesToString w ad l.length c _ hload]
    congr 2
    have : ∀ (m : List UInt8) (s : ByteArray), (m.map fun x : UInt8 => (x.toNat : Int)).foldl (fun r n => r.push (UInt8.ofNat n.toNat)) s = ⟨(s.data.toList ++ m).toArray⟩ := by
      intro m
      induction m with
      | nil => intro s; cases s; simp
      | cons x m ih =>
        intro s
        rw [List.map_cons, List.foldl_cons, ih]
        cases s
        simp [ByteArray.push]
    rw [this]
    simp [ByteArray.empty, ByteArray.emptyWithCapacity]
    rfl

theorem exec_bytes_string (B : BT P T E S) (x : Operand) (ho : o.op = .convert T S x) (A : Option Addr) (n c : Nat) (hx : a.eval x = .slice A n c) (l : List UInt8) (hr : Rd w A (bvs l)) (hl : l.length = n) :
    (execOp a.eval o).run P w = .ok (.value (.string ⟨l.toArray⟩)) w := by
  have h := run_bytes_string (w := w) B A n c l hr hl
  unfold execOp
  simp only [ho, hx, Sem.run_bind, h, Result.andThen_ok, Sem.run_pure]

theorem wpList_bytes_string (B : BT P T E S) (hgd : o.guard = none) (x : Operand) (ho : o.op = .convert T S x) (A : Option Addr) (n c : Nat) (hx : a.eval x = .slice A n c) (l : List UInt8) (hr : Rd w A (bvs l)) (hl : l.length = n)
    (h : wpList P ops Q rest (a.put o.dst (.string ⟨l.toArray⟩)) w) : wpList P ops Q (o :: rest) a w := by
  refine wpList_plain hgd fun K hK => ?_
  unfold Oper.wp
  rw [exec_bytes_string B x ho A n c hx l hr hl]
  exact hK _ _ h
end
end Go.Proofs.Ytehbahobkgoapaa
