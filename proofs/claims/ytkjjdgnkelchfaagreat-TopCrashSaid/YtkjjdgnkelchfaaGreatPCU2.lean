import Derived.Test.YtkjjdgnkelchfaaGreatPCU1
set_option linter.unusedSimpArgs false
set_option linter.unusedVariables false
set_option maxRecDepth 100000
set_option maxHeartbeats 16000000
namespace Go.Proofs.YtkjjdgnkelchfaaGreat
open Go
theorem xe2 : ∀ (a r : List Char), (∀ c ∈ a, c ≠ Char.ofNat 32) → wordsSigns (a ++ Char.ofNat 32 :: r) = a :: wordsSigns r
  | [], r, _ => by rw [List.nil_append]; rfl
  | c :: a, r, h => by
    have ih := xe2 a r (fun x hx => h x (by simp [hx])); have hc := h c (by simp); rw [List.cons_append]
    conv => lhs; unfold wordsSigns
    split
    · rename_i e; injection e
    · rename_i e
      injection e with e _; exact absurd e hc
    · rename_i e
      injection e with e1 e2; subst e1; subst e2; rw [ih]
def signs (l : List Nat) : List Char := l.map Char.ofNat
def head1 : List Char := signs [104, 97, 114, 110, 101, 115, 115]
def head2 : List Char := signs [56, 57, 57, 56, 98, 50, 55, 99, 50, 97, 101, 101, 54, 51, 48, 101, 54, 51, 98, 54, 54, 53, 49, 52, 54, 100, 51, 51, 55, 100, 55, 57, 53, 52, 97, 51, 48, 101, 97, 49, 99, 100, 100,
    48, 54, 49, 101, 51, 56, 54, 97, 53, 98, 56, 102, 48, 102, 48, 101, 101, 53, 99, 55, 53]
def xii : List Char := signs [99, 117, 116]
def xi9 : List Char := signs [97, 116, 32, 114, 111, 111, 116, 99, 101, 108, 108, 97, 114, 47, 114, 111, 111, 116, 99, 101, 108, 108, 97, 114, 116, 111, 112, 46, 84, 111, 112, 84, 114, 117, 116, 104, 115, 32,
    114, 111, 111, 116, 99, 101, 108, 108, 97, 114, 47, 114, 111, 111, 116, 99, 101, 108, 108, 97, 114, 116, 111, 112, 46, 84, 111, 112, 67, 114, 97, 115, 104, 32, 114, 111, 111, 116,
    99, 101, 108, 108, 97, 114, 47, 114, 111, 111, 116, 99, 101, 108, 108, 97, 114, 116, 111, 112, 46, 84, 111, 112, 78, 101, 120, 116]
theorem xrh : Tryz.prog.initOrder.toList = head1 ++ Char.ofNat 32 :: (head2 ++ Char.ofNat 32 :: (xii ++ Char.ofNat 32 :: xi9)) := by
  have h : Tryz.prog.initOrder = String.ofList (head1 ++ Char.ofNat 32 :: (head2 ++ Char.ofNat 32 :: (xii ++ Char.ofNat 32 :: xi9))) := by kernel_rfl
  rw [h, String.toList_ofList]
theorem xja {l : List Char} (h : (l.all fun c => !(c == Char.ofNat 32)) = true) : ∀ c ∈ l, c ≠ Char.ofNat 32 := fun c hc e => by
  have := List.all_eq_true.1 h c hc; simp [e] at this
theorem xri (a b c : List Char) (r : List (List Char)) (h : ((a == "harness".toList || a == "ownmain".toList) && isSumSigns b) = true) : behindMainWord (a :: b :: c :: r) = c :: r := by
  unfold behindMainWord; exact if_pos h
theorem xgo : behindMainWord (wordsSigns Tryz.prog.initOrder.toList) = xii :: wordsSigns xi9 := by
  rw [xrh, xe2 _ _ (xja (by kernel_rfl)), xe2 _ _ (xja (by kernel_rfl)), xe2 _ _ (xja (by kernel_rfl))]; exact xri _ _ _ _ (by kernel_rfl)
theorem enter_of (x : List (List Char)) (P : Program) (h : behindMainWord (wordsSigns P.initOrder.toList) = xii :: x) (hl : P.laysLater = false) (hb : P.bearsReflect = false) (hd : P.doorFits [] = true) : P.mayEnter = true := by
  unfold Program.mayEnter; rw [h]; have hs : stripLifts liftWords (xii :: x) = ([], xii :: x) := by kernel_rfl
  simp [hs, hl, hb, hd]; exact Or.inr (by kernel_rfl)
theorem lifts_of (x : List (List Char)) (P : Program) (h : behindMainWord (wordsSigns P.initOrder.toList) = xii :: x) : P.liftsFinal = false := by
  unfold Program.liftsFinal Program.headLifts; simp only [h]
  kernel_rfl
theorem make_of (x : List (List Char)) (P : Program) (h : behindMainWord (wordsSigns P.initOrder.toList) = xii :: x) : P.make = some .cut := by
  unfold Program.make; rw [h]; kernel_rfl
theorem fa_laid : laidOutB Tryz.prog = true := by kernel_rfl
theorem fa_maps : mapsRowed Tryz.prog = true := by kernel_rfl
theorem fa_stops : (Tryz.prog.stops == []) = true := by kernel_rfl
theorem fa_knobs : (Tryz.prog.stopKnobs == []) = true := by kernel_rfl
theorem fa_keys : Tryz.prog.plainKeys = false := by kernel_rfl
theorem fa_heard : Tryz.prog.stopsHeard = true := by kernel_rfl
theorem fa_later : Tryz.prog.laysLater = false := by kernel_rfl
theorem xo1 : Tryz.prog.bearsReflect = false := by kernel_rfl
theorem fa_door : Tryz.prog.doorFits [] = true := by kernel_rfl
theorem fa_enter : Tryz.prog.mayEnter = true := enter_of _ _ xgo fa_later xo1 fa_door
theorem fa_lifts : Tryz.prog.liftsFinal = false := lifts_of _ _ xgo
theorem fa_make : Tryz.prog.make = some .cut := make_of _ _ xgo
end Go.Proofs.YtkjjdgnkelchfaaGreat
namespace Go.Proofs.YtkjjdgnkelchfaaGreat
open Go Go.RowKit
def bv (x : UInt8) : Value := .int .u8 (x.toNat : Int)
def bvs (l : List UInt8) : List Value := l.map bv
theorem xae (l : List UInt8) : (bvs l).length = l.length := by simp [bvs]
theorem xb2 (l m : List UInt8) : bvs (l ++ m) = bvs l ++ bvs m := by simp [bvs]
theorem xd2 (l : List UInt8) (i : Nat) : (bvs l)[i]? = l[i]?.map bv := by simp [bvs]
theorem xbo (l : List UInt8) : ∀ u ∈ bvs l, u.oneCell' = true := by
  intro u hu; obtain ⟨x, _, rfl⟩ := List.mem_map.1 hu; rfl
def Blk (w : World) (g : Nat) (t : TypeId) (cs : List Value) : Prop := w.heap[g]? = some (.cells cs.toArray t (0, 0))
section
variable {w w' : World} {g : Nat} {t : TypeId} {cs : List Value}
theorem Blk.lt (h : Blk w g t cs) : g < w.heap.size := by
  rcases Nat.lt_or_ge g w.heap.size with hlt | hge
  · exact hlt
  · unfold Blk at h; rw [Array.getElem?_eq_none hge] at h; cases h
theorem Blk.cell (h : Blk w g t cs) (i : Nat) : w.cell? ⟨g, i, none⟩ = cs[i]? := by
  rw [cell_of_row w g i cs.toArray t (0, 0) h]; simp
theorem Blk.free (h : Blk w g t cs) (i : Nat) : w.frozen? ⟨g, i, none⟩ = false := frozen_of_row w g i cs.toArray t h
theorem Blk.new (w : World) (t : TypeId) (cs : List Value) : Blk (w.alloc (.cells cs.toArray t)) w.heap.size t cs := heap_alloc_new w _
theorem Blk.drew (h : Blk w g t cs) : Blk w.drew g t cs := h
theorem Blk.alloc (h : Blk w g t cs) (o : Obj) : Blk (w.alloc o) g t cs := (Below.heap_alloc w o g h.lt).trans h
theorem Blk.set_ (h : Blk w g t cs) (i : Nat) (u : Value) : Blk (w.setCell ⟨g, i, none⟩ u) g t (cs.set i u) := by
  have := heap_setCell_same w g i cs.toArray t u h; unfold Blk; rw [this]; simp
theorem Blk.far (h : Blk w g t cs) {p : Addr} (hp : g ≠ p.block) (u : Value) : Blk (w.setCell p u) g t cs := (Below.heap_setCell w p u g hp).trans h
theorem Blk.below {B : Nat} (h : Blk w g t cs) (hb : Below B w w') (hg : g < B) : Blk w' g t cs := (hb.block g hg).trans h
theorem Blk.grown {row : Option Nat} (h : Blk w g t cs) (hb : w.grownBy w' row) (hg : some g ≠ row) : Blk w' g t cs := (hb.block g h.lt hg).trans h
theorem Blk.row (h : Blk w g t cs) (ds : List Value) : Blk (w.setRow g ds.toArray) g t ds := setRow_heap w g cs.toArray ds.toArray t (0, 0) h
end
def Rd (w : World) (A : Option Addr) (cs : List Value) : Prop :=
  0 < cs.length → ∃ ad, A = some ad ∧ ∀ j u, cs[j]? = some u → w.cell? (ad.add j) = some u
section
variable {w w' : World} {A : Option Addr} {cs : List Value}
theorem Rd.nil (w : World) (A : Option Addr) : Rd w A [] := fun h => absurd h (by simp)
theorem Rd.at_ (h : Rd w A cs) {k : Nat} (hk : k < cs.length) : ∃ ad, A = some ad ∧ w.cell? (ad.add k) = some cs[k] := by
  obtain ⟨ad, e, hc⟩ := h (by omega); exact ⟨ad, e, hc k _ (List.getElem?_eq_getElem hk)⟩
theorem Rd.keep (h : Rd w A cs) (hk : ∀ (p : Addr) u, w.cell? p = some u → w'.cell? p = some u) : Rd w' A cs := fun hn => by
  obtain ⟨ad, e, hc⟩ := h hn; exact ⟨ad, e, fun j u hu => hk _ _ (hc j u hu)⟩
theorem Rd.below (h : Rd w A cs) (hb : Below w.heap.size w w') : Rd w' A cs :=
  h.keep fun p _ hp => (hb.cell (World.block_lt_of_cell? w p hp)).trans hp
theorem Rd.drew (h : Rd w A cs) : Rd w.drew A cs := h
theorem Rd.alloc (h : Rd w A cs) (o : Obj) : Rd (w.alloc o) A cs := h.keep fun p _ hp => (World.cell?_alloc_lt w o p (World.block_lt_of_cell? w p hp)).trans hp
theorem Rd.of_blk {g : Nat} {t : TypeId} {ds : List Value} (h : Blk w g t ds) (o n : Nat) (_hn : o + n ≤ ds.length) : Rd w (some ⟨g, o, none⟩) ((ds.drop o).take n) := fun _ => by
  refine ⟨_, rfl, fun j u hu => ?_⟩
  have hj : j < n := by
    have := (List.getElem?_eq_some_iff.1 hu).1; simp at this; omega
  have : (⟨g, o, none⟩ : Addr).add j = ⟨g, o + j, none⟩ := by
    unfold Addr.add; split
    · subst_vars; rfl
    · rfl
  rw [this, h.cell]; rw [List.getElem?_take_of_lt hj, List.getElem?_drop] at hu; exact hu
theorem Rd.of_blk0 {g : Nat} {t : TypeId} {ds es : List Value} (h : Blk w g t (ds ++ es)) : Rd w (some ⟨g, 0, none⟩) ds := by
  have := Rd.of_blk h 0 ds.length (by simp); simpa using this
theorem Rd.cut (h : Rd w A cs) (k m : Nat) : Rd w (A.map (·.add k)) ((cs.drop k).take m) := fun hn => by
  obtain ⟨ad, rfl, hc⟩ := h (by simp at hn; omega); refine ⟨ad.add k, rfl, fun j u hu => ?_⟩
  have e : (ad.add k).add j = ad.add (k + j) := by
    unfold Addr.add; by_cases hi : k = 0 <;> by_cases hj : j = 0 <;> simp [hi, hj, Nat.add_assoc]
  rw [e]; apply hc
  have hj : j < m := by
    have := (List.getElem?_eq_some_iff.1 hu).1; simp at this; omega
  rw [List.getElem?_take_of_lt hj, List.getElem?_drop] at hu; exact hu
theorem Rd.take (h : Rd w A cs) (m : Nat) : Rd w A (cs.take m) := fun hn => by
  obtain ⟨ad, rfl, hc⟩ := h (by simp at hn; omega); refine ⟨ad, rfl, fun j u hu => hc j u ?_⟩
  have hj : j < m := by
    have := (List.getElem?_eq_some_iff.1 hu).1; simp at this; omega
  rwa [List.getElem?_take_of_lt hj] at hu
end
structure Fr (S : Nat → Prop) (w w' : World) : Prop where
  os : w'.os = w.os
  tape : w'.tape = w.tape
  output : w'.output = w.output
  size : w.heap.size ≤ w'.heap.size
  block : ∀ k, k < w.heap.size → ¬ S k → w'.heap[k]? = w.heap[k]?
section
variable {S : Nat → Prop} {a b c w w' : World}
theorem Fr.refl (S : Nat → Prop) (w : World) : Fr S w w := ⟨rfl, rfl, rfl, Nat.le_refl _, fun _ _ _ => rfl⟩
theorem Fr.trans (h : Fr S a b) (k : Fr S b c) : Fr S a c :=
  ⟨k.os.trans h.os, k.tape.trans h.tape, k.output.trans h.output, Nat.le_trans h.size k.size, fun i hi hs => (k.block i (Nat.lt_of_lt_of_le hi h.size) hs).trans (h.block i hi hs)⟩
theorem Fr.below (h : Fr S a b) (k : Below b.heap.size b c) : Fr S a c :=
  ⟨k.os.trans h.os, k.tape.trans h.tape, k.output.trans h.output, Nat.le_trans h.size k.size, fun i hi hs => (k.block i (Nat.lt_of_lt_of_le hi h.size)).trans (h.block i hi hs)⟩
theorem Fr.grown {row : Option Nat} (h : Fr S a b) (k : b.grownBy c row) (hr : ∀ g, row = some g → S g ∨ a.heap.size ≤ g) : Fr S a c :=
  ⟨k.os.trans h.os, k.tape.trans h.tape, k.output.trans h.output, Nat.le_trans h.size k.size, fun i hi hs => (k.block i (Nat.lt_of_lt_of_le hi h.size) (fun e => by
    rcases hr i e.symm with h1 | h1
    · exact hs h1
    · omega)).trans (h.block i hi hs)⟩
theorem Fr.drew (h : Fr S a b) : Fr S a b.drew := ⟨h.os, h.tape, h.output, h.size, h.block⟩
theorem Fr.alloc (h : Fr S a b) (o : Obj) : Fr S a (b.alloc o) := h.below ((Below.refl _ _).alloc (Nat.le_refl _) _)
theorem Fr.setCell (h : Fr S a b) {p : Addr} (hp : S p.block ∨ a.heap.size ≤ p.block) (u : Value) : Fr S a (b.setCell p u) :=
  ⟨h.os, h.tape, h.output, by simpa [World.setCell] using h.size, fun i hi hs => (Below.heap_setCell b p u i (by
    rintro rfl; rcases hp with hp | hp
    · exact hs hp
    · omega)).trans (h.block i hi hs)⟩
theorem Fr.of_below (h : Below a.heap.size a b) : Fr S a b := ⟨h.os, h.tape, h.output, h.size, fun i hi _ => h.block i hi⟩
theorem Rd.fr {A : Option Addr} {cs : List Value} (h : Rd a A cs) (hf : Fr S a b) (hA : ∀ ad, A = some ad → ¬ S ad.block) : Rd b A cs := fun hn => by
  obtain ⟨ad, e, hc⟩ := h hn; refine ⟨ad, e, fun j u hu => ?_⟩; have h1 := hc j u hu; have hb : (ad.add j).block = ad.block := by unfold Addr.add; split <;> rfl
  have hlt := World.block_lt_of_cell? a _ h1; rw [World.cell?_of_block (w := a) (hf.block _ hlt (by rw [hb]; exact hA ad e)), h1]
theorem Blk.fr {g : Nat} {t : TypeId} {cs : List Value} (h : Blk a g t cs) (hf : Fr S a b) (hg : ¬ S g) : Blk b g t cs := (hf.block g h.lt hg).trans h
end
section
variable {P : Program} {ops : Array Oper} {rest : List Oper} {a : Act} {w : World} {Q : Exit → Act → World → Prop}
theorem xat (d : Tmp) {op : Op} {ty : TypeId} {pos : String} {after : Array Edge} {g : Option (Nat × Bool)}
    (h : wpList P ops Q (⟨some d, op, ty, pos, after, g⟩ :: rest) a w) : wpList P ops Q (⟨some d, op, ty, pos, after, g⟩ :: rest) a w := h
theorem xej (op : Op) {d : Option Tmp} {ty : TypeId} {pos : String} {after : Array Edge} {g : Option (Nat × Bool)}
    (h : wpList P ops Q (⟨d, op, ty, pos, after, g⟩ :: rest) a w) : wpList P ops Q (⟨d, op, ty, pos, after, g⟩ :: rest) a w := h
end
structure BT (P : Program) (T E S : TypeId) : Prop where
  t : P.underlying T = some (.slice E)
  e : P.underlying E = some (.int .u8)
  s : P.underlying S = some .string
  i : (P.info? E).map (fun i => (i.zero, i.size, i.bytes)) = some (some (.int .u8 0), 1, 1)
section
variable {P : Program} {T E S : TypeId} {w : World} {ops : Array Oper} {rest : List Oper} {o : Oper} {a : Act} {Q : Exit → Act → World → Prop}
theorem xkt (n : Nat) : madeCells (Value.int .u8 0).cells n = (bvs (List.replicate n 0)).toArray := by
  apply Array.ext'; apply List.ext_getElem?; intro j; simp [madeCells, bvs, bv, Value.cells, List.getElem?_replicate]; by_cases h : j < n
  · simp [h, Nat.mod_one]
  · simp [h]
theorem xec (B : BT P T E S) (kl kc : IntKind) (n c : Nat) (hnc : n ≤ c) (hc : c ≤ 281474976710656) :
    (Instr.makeSlice T (.int kl n) (.int kc c)).run P w = .ok (.slice (some ⟨w.heap.size, 0, none⟩) n c) (w.alloc (.cells (bvs (List.replicate c 0)).toArray E)) := by
  obtain ⟨i, hi, hz, hs, hb⟩ := info_parts B.i; have hr := run_make (P := P) w T E i _ B.t hi hz kl kc n c (by omega) (by omega) (by rw [hb]; omega) (by omega); rw [hs, xkt] at hr; simpa using hr
theorem xgy (B : BT P T E S) (hgd : o.guard = none) (l c : Operand) (ho : o.op = Op.makeSlice T l c) (kl kc : IntKind) (n m : Nat) (hl : a.eval l = .int kl n) (hc : a.eval c = .int kc m)
    (hnc : n ≤ m) (hm : m ≤ 281474976710656)
    (h : ∀ w', Blk w' w.heap.size E (bvs (List.replicate m 0)) → Below w.heap.size w w' → w'.heap.size = w.heap.size + 1 → wpList P ops Q rest (a.put o.dst (.slice (some ⟨w.heap.size, 0, none⟩) n m)) w') : wpList P ops Q (o :: rest) a w := by
  refine X1 ?_; intro K hK; have hr := xec (w := w) B kl kc n m hnc hm; unfold Oper.wp; simp [execOp, ho, hl, hc, hr, Result.andThen]; exact hK _ _ (h _ (Blk.new _ _ _) ((Below.refl _ _).alloc (Nat.le_refl _) _) (by simp))
theorem xdd (w : World) (g : Nat) (cs : Array Value) : w.grownBy (w.setRow g cs) (some g) :=
  ⟨rfl, rfl, rfl, by simp, fun k _ hne => setRow_other w g k cs (fun e => hne (by rw [e]))⟩
def OwnB (w : World) (base : Nat) (E : TypeId) (v : Value) (l : List UInt8) : Prop :=
  (v = .slice none 0 0 ∧ l = []) ∨ ∃ (g : Nat) (sp : List UInt8), v = .slice (some ⟨g, 0, none⟩) l.length (l.length + sp.length) ∧ base ≤ g ∧ l.length + sp.length ≤ maxLen ∧ Blk w g E (bvs (l ++ sp))
theorem OwnB.nil (w : World) (base : Nat) (E : TypeId) : OwnB w base E (.slice none 0 0) [] := .inl ⟨rfl, rfl⟩
theorem OwnB.rd {base : Nat} {v : Value} {l : List UInt8} (h : OwnB w base E v l) : ∃ A c, v = .slice A l.length c ∧ l.length ≤ c ∧ c ≤ maxLen ∧ Rd w A (bvs l) := by
  rcases h with ⟨rfl, rfl⟩ | ⟨g, sp, rfl, _, hm, hb⟩
  · exact ⟨none, 0, rfl, by simp, by simp, Rd.nil _ _⟩
  · rw [xb2] at hb
    exact ⟨_, _, rfl, by omega, hm, Rd.of_blk0 hb⟩
theorem OwnB.grown {w' : World} {base : Nat} {row : Option Nat} {v : Value} {l : List UInt8} (h : OwnB w base E v l) (hb : w.grownBy w' row) (hr : ∀ k, row = some k → v.ownBlock ≠ some k) : OwnB w' base E v l := by
  rcases h with h | ⟨g, sp, rfl, hg, hm, hk⟩
  · exact .inl h
  · exact .inr ⟨g, sp, rfl, hg, hm, hk.grown hb (fun e => hr g e.symm rfl)⟩
theorem OwnB.mono {base base' : Nat} {v : Value} {l : List UInt8} (h : OwnB w base E v l) (hb : base' ≤ base) : OwnB w base' E v l := by
  rcases h with h | ⟨g, sp, e, hg, hm, hk⟩
  · exact .inl h
  · exact .inr ⟨g, sp, e, by omega, hm, hk⟩
theorem OwnB.lt {base : Nat} {v : Value} {l : List UInt8} (h : OwnB w base E v l) : ∀ k, v.ownBlock = some k → base ≤ k ∧ k < w.heap.size := by
  rcases h with ⟨rfl, rfl⟩ | ⟨g, sp, rfl, hg, hm, hk⟩
  · intro k hk; simp [Value.ownBlock] at hk
  · intro k he
    simp [Value.ownBlock] at he; subst he; exact ⟨hg, hk.lt⟩
theorem xrj (n : Nat) : (Builtin.zeroCells (Value.int .u8 0).cells n) = (bvs (List.replicate n 0)).toArray := by
  have : Builtin.zeroCells (Value.int .u8 0).cells n = madeCells (Value.int .u8 0).cells n := by
    simp [Builtin.zeroCells, madeCells, Value.cells]
  rw [this, xkt]
theorem xho (B : BT P T E S) (ty : TypeId) (base : Nat) (v : Value) (l : List UInt8) (hown : OwnB w base E v l) (A : Option Addr) (m c : Nat) (x : List UInt8) (hx : x.length = m) (hr : Rd w A (bvs x))
    (hbytes : l.length + m ≤ 140737488355328) (hbase : base ≤ w.heap.size) :
    ∃ v' w', (Builtin.append_ #[T, T] ty #[v, .slice A m c]).run P w = .ok v' w' ∧ OwnB w' base E v' (l ++ x) ∧ w.grownBy w' v.ownBlock ∧ (v'.ownBlock = v.ownBlock ∨ v'.ownBlock = some w.heap.size) := by
  obtain ⟨i, hi, hz, hsz, hb⟩ := info_parts B.i; subst hx; have hml : (maxLen : Nat) = 9223372036854775807 := rfl; by_cases h0 : x = []
  · subst h0
    refine ⟨v, w, ?_, by simpa using hown, World.grownBy.refl _ _, .inl rfl⟩; have hst : ∀ ad : Addr, (storeCells ad []).run P w = .ok () w := fun ad => rfl
    rcases hown with ⟨rfl, rfl⟩ | ⟨g, sp, rfl, hg, hm, hk⟩
    · cases A <;> simp [Builtin.append_, run_underlying B.t, sizeOf, typeInfo, hi, Builtin.lenOf, Builtin.firstCells, loadCells, loadCellsFrom]
    · cases A <;> simp [Builtin.append_, run_underlying B.t, sizeOf, typeInfo, hi, Builtin.lenOf, Builtin.firstCells, loadCells, loadCellsFrom, storeCells]
  · have hpos : 0 < x.length := List.length_pos_iff.2 h0
    obtain ⟨ad, rfl, hc⟩ := hr (by rw [xae]; exact hpos); have hgc : ∀ old, grownCap w (l.length + x.length) old E ≤ maxLen := fun old => grownCap_le_maxLen w _ old E (by omega)
    have hge : ∀ old, l.length + x.length ≤ grownCap w (l.length + x.length) old E := fun old => grownCap_ge w _ old E
    have fin : ∀ (old : Nat) (row : Option Nat),
        OwnB (w.drew.alloc (.cells ((bvs l).toArray ++ (bvs x).toArray ++ Builtin.zeroCells (Value.int .u8 0).cells (grownCap w (l.length + x.length) old E - (l.length + x.length))) E)) base E
          (.slice (some ⟨w.heap.size, 0, none⟩) (l.length + x.length) (grownCap w (l.length + x.length) old E)) (l ++ x) ∧
        w.grownBy (w.drew.alloc (.cells ((bvs l).toArray ++ (bvs x).toArray ++ Builtin.zeroCells (Value.int .u8 0).cells (grownCap w (l.length + x.length) old E - (l.length + x.length))) E)) row := by
      intro old row; refine ⟨.inr ⟨w.heap.size, List.replicate (grownCap w (l.length + x.length) old E - (l.length + x.length)) 0, ?_, hbase, ?_, ?_⟩, ⟨rfl, rfl, rfl, by simp, fun k hk _ => Below.heap_alloc w.drew _ k (by simpa using hk)⟩⟩
      · have := hge old
        simp only [qp, List.length_replicate]; congr 1; omega
      · have := hge old; have := hgc old
        simp only [qp, List.length_replicate]; omega
      · have := Blk.new w.drew E (bvs l ++ bvs x ++ bvs (List.replicate (grownCap w (l.length + x.length) old E - (l.length + x.length)) 0))
        rw [xrj, List.append_toArray, List.append_toArray]; simp only [xb2]; exact this
    rcases hown with ⟨rfl, rfl⟩ | ⟨g, sp, rfl, hg, hm, hk⟩
    · have hr := run_append_nil (P := P) w T ty E i _ B.t hi hz ad x.length c (bvs x) (by simp [bvs, hsz]) hc hpos (by omega) (by rw [hb]; simp only [qs, Nat.zero_add] at hbytes; omega)
      have hf := fin 0 (Value.ownBlock (.slice none 0 0)); simp only [qs, Nat.zero_add, qn, bvs, ql, Array.empty_append] at hf hr ⊢; exact ⟨_, _, hr, hf.1, hf.2, .inr rfl⟩
    · by_cases hroom : x.length ≤ sp.length
      · have hrun := run_append_room (P := P) w T ty E i B.t hi g l.length (l.length + sp.length) (bvs (l ++ sp)).toArray hk ad x.length c (bvs x) (by simp [bvs, hsz]) hc (xbo _) (by omega) (by simp [bvs, hsz]; omega)
        refine ⟨_, _, hrun, .inr ⟨g, sp.drop x.length, ?_, hg, ?_, ?_⟩, xdd w g _, .inl rfl⟩
        · simp only [qp, List.length_drop]
          congr 1; omega
        · simp only [qp, List.length_drop]
          omega
        · have := hk.row (bvs (l ++ x ++ sp.drop x.length))
          have e : ((bvs (l ++ sp)).toArray.toList.take (l.length * i.size) ++ bvs x ++ (bvs (l ++ sp)).toArray.toList.drop (l.length * i.size + (bvs x).length)) = bvs (l ++ x ++ sp.drop x.length) := by
            simp only [bvs, hsz, List.map_append, Nat.mul_one, List.length_map]; congr 1
            · congr 1
              exact List.take_left' (by simp)
            · rw [List.drop_append, List.map_drop]; simp
          rw [e]; exact this
      · have hl : Rd w (some ⟨g, 0, none⟩) (bvs l) := by rw [xb2] at hk; exact Rd.of_blk0 hk
        have holds : ∀ j u, (bvs l)[j]? = some u → w.cell? ((⟨g, 0, none⟩ : Addr).add j) = some u := by
          intro j u hu; obtain ⟨ad', e, hc'⟩ := hl (by have := (List.getElem?_eq_some_iff.1 hu).1; omega); cases e; exact hc' j u hu
        have hr := run_append_grow (P := P) w T ty E i _ B.t hi hz ⟨g, 0, none⟩ l.length (l.length + sp.length) (bvs l) (by simp [bvs, hsz]) holds ad x.length c (bvs x) (by simp [bvs, hsz]) hc (by omega) (by omega) (growslice_fits (by omega) (by rw [hb]; omega)); have hf := fin (l.length + sp.length) (Value.ownBlock (.slice (some ⟨g, 0, none⟩) l.length (l.length + sp.length))); exact ⟨_, _, hr, hf.1, hf.2, .inr rfl⟩
theorem xbv (B : BT P T E S) (hgd : o.guard = none) (s x : Operand) (ho : o.op = .call { callee := .builtin .append, args := #[s, x], argTypes := #[T, T] })
    (base : Nat) (v : Value) (l : List UInt8) (hs : a.eval s = v) (hown : OwnB w base E v l) (A : Option Addr) (m c : Nat) (y : List UInt8) (hx : a.eval x = .slice A m c) (hy : y.length = m) (hr : Rd w A (bvs y))
    (hbytes : l.length + m ≤ 140737488355328) (hbase : base ≤ w.heap.size)
    (h : ∀ v' w', OwnB w' base E v' (l ++ y) → w.grownBy w' v.ownBlock → (v'.ownBlock = v.ownBlock ∨ v'.ownBlock = some w.heap.size) → wpList P ops Q rest (a.put o.dst v') w') : wpList P ops Q (o :: rest) a w := by
  obtain ⟨v', w', hrun, h1, h2, h3⟩ := xho B o.type base v l hown A m c y hy hr hbytes hbase; refine X1 ?_; intro K hK; unfold Oper.wp execOp; simp only [ho, resolve, invoke, builtin, Sem.run_bind, Sem.run_pure, Result.andThen_ok, List.map_toArray, qk, ql, hs, hx, hrun]; exact hK _ _ (h v' w' h1 h2 h3)
theorem xhp (B : BT P T E S) (A : Option Addr) (n c : Nat) (l : List UInt8) (hr : Rd w A (bvs l)) (hl : l.length = n) : (convert T S (.slice A n c)).run P w = .ok (.string ⟨l.toArray⟩) w := by
  rw [run_convert_bytes_string w T S E A n c B.t B.e B.s]; subst hl; by_cases h0 : l = []
  · subst h0
    cases A with
    | none => simp [Conv.bytesToString]; rfl
    | some ad => simp [Conv.bytesToString, loadCells, loadCellsFrom]; rfl
  · obtain ⟨ad, rfl, hc⟩ := hr (by rw [xae]; exact List.length_pos_iff.2 h0)
    have hload := run_loadCells_list (P := P) w ad (bvs l) hc; rw [xae] at hload; have e : bvs l = (l.map fun x : UInt8 => (x.toNat : Int)).map (Value.int .u8) := by simp [bvs, bv]
    rw [e] at hload; rw [run_bytesToString w ad l.length c _ hload]; congr 2
    have : ∀ (m : List UInt8) (s : ByteArray), (m.map fun x : UInt8 => (x.toNat : Int)).foldl (fun r n => r.push (UInt8.ofNat n.toNat)) s = ⟨(s.data.toList ++ m).toArray⟩ := by
      intro m
      induction m with
      | nil => intro s; cases s; simp
      | cons x m ih =>
        intro s; rw [List.map_cons, List.foldl_cons, ih]; cases s; simp [ByteArray.push]
    rw [this]; simp [ByteArray.empty, ByteArray.emptyWithCapacity]; rfl
theorem xbd (B : BT P T E S) (x : Operand) (ho : o.op = .convert T S x) (A : Option Addr) (n c : Nat) (hx : a.eval x = .slice A n c) (l : List UInt8) (hr : Rd w A (bvs l)) (hl : l.length = n) :
    (execOp a.eval o).run P w = .ok (.value (.string ⟨l.toArray⟩)) w := by
  have h := xhp (w := w) B A n c l hr hl; unfold execOp; simp only [ho, hx, Sem.run_bind, h, Result.andThen_ok, Sem.run_pure]
theorem xc0 (B : BT P T E S) (hgd : o.guard = none) (x : Operand) (ho : o.op = .convert T S x) (A : Option Addr) (n c : Nat) (hx : a.eval x = .slice A n c) (l : List UInt8) (hr : Rd w A (bvs l)) (hl : l.length = n)
    (h : wpList P ops Q rest (a.put o.dst (.string ⟨l.toArray⟩)) w) : wpList P ops Q (o :: rest) a w := by
  refine X1 ?_; intro K hK; unfold Oper.wp; rw [xbd B x ho A n c hx l hr hl]; exact hK _ _ h
end
def cutA (A : Option Addr) (c lo z : Nat) : Option Addr := if c = lo then A else A.map (·.add (lo * z))
structure ST (P : Program) (T E z : Nat) : Prop where
  t : P.underlying T = some (.slice E)
  i : (P.info? E).map (fun i => i.size) = some z
theorem BT.st {P : Program} {T E S : TypeId} (B : BT P T E S) : ST P T E 1 := ⟨B.t, by
  obtain ⟨i, hi, _, hs, _⟩ := info_parts B.i
  rw [hi]; simp [hs]⟩
section
variable {P : Program} {T E z : Nat} {w : World} {ops : Array Oper} {rest : List Oper} {o : Oper} {a : Act} {Q : Exit → Act → World → Prop}
theorem ST.size (B : ST P T E z) : (sizeOf E).run P w = .ok z w := by
  have h := B.i
  cases hq : P.info? E with
  | none => simp [hq] at h
  | some i =>
    simp [hq] at h; simp [sizeOf, typeInfo, hq, h]
theorem xlo (B : ST P T E z) (A : Option Addr) (n c h : Nat) (k : IntKind) (hh : h ≤ c) : (Instr.slice T (.slice A n c) none (some (.int k (h : Int))) none).run P w = .ok (.slice A h c) w := by
  have e : P.elem T = E := by simp [Program.elem, B.t]
  rw [run_slice_h w T A n c (by rw [e]; exact B.t) k h (by omega) (by omega), e, B.size]; simp only [Result.andThen, sliced]
  have : (if c = 0 then A else A.map (·.add (0 * z))) = A := by
    split
    · rfl
    · cases A <;> simp [Addr.add]
  simp only [Int.toNat_natCast, this, Nat.sub_zero]
theorem xjb (B : ST P T E z) (A : Option Addr) (n c l : Nat) (k : IntKind) (hl : l ≤ n) : (Instr.slice T (.slice A n c) (some (.int k (l : Int))) none none).run P w = .ok (.slice (cutA A c l z) (n - l) (c - l)) w := by
  have e : P.elem T = E := by simp [Program.elem, B.t]
  rw [run_slice_l w T A n c (by rw [e]; exact B.t) k l (by omega) (by omega), e, B.size]; simp [Result.andThen, sliced, cutA]
theorem xaw (B : ST P T E z) (x hi : Operand) (ho : o.op = .slice T x none (some hi) none) (A : Option Addr) (n c h : Nat) (k : IntKind) (hx : a.eval x = .slice A n c) (hh : a.eval hi = .int k (h : Int)) (hb : h ≤ c) :
    (execOp a.eval o).run P w = .ok (.value (.slice A h c)) w := by
  have hr := xlo (w := w) B A n c h k hb; have e : P.elem T = E := by simp [Program.elem, B.t]
  unfold execOp; simp only [ho, hx, Option.map_some, hh, Option.map_none, Sem.run_bind, run_sliceAt_slice w T _ _ _ _ (by rw [e]; exact B.t), hr, Result.andThen_ok, Sem.run_pure]
theorem xco (B : ST P T E z) (x lo : Operand) (ho : o.op = .slice T x (some lo) none none) (A : Option Addr) (n c l : Nat) (k : IntKind) (hx : a.eval x = .slice A n c) (hh : a.eval lo = .int k (l : Int)) (hb : l ≤ n) :
    (execOp a.eval o).run P w = .ok (.value (.slice (cutA A c l z) (n - l) (c - l))) w := by
  have hr := xjb (w := w) B A n c l k hb; have e : P.elem T = E := by simp [Program.elem, B.t]
  unfold execOp; simp only [ho, hx, Option.map_some, hh, Option.map_none, Sem.run_bind, run_sliceAt_slice w T _ _ _ _ (by rw [e]; exact B.t), hr, Result.andThen_ok, Sem.run_pure]
theorem xaa (hgd : o.guard = none) (v : Value) (hr : (execOp a.eval o).run P w = .ok (.value v) w) (h : wpList P ops Q rest (a.put o.dst v) w) : wpList P ops Q (o :: rest) a w := by
  refine X1 ?_; intro K hK; unfold Oper.wp; rw [hr]; exact hK _ _ h
theorem Rd.cutA {A : Option Addr} {cs : List Value} {c lo z : Nat} (h : Rd w A cs) (hc : cs.length ≤ c * z) (m : Nat) : Rd w (cutA A c lo z) ((cs.drop (lo * z)).take m) := by
  unfold YtkjjdgnkelchfaaGreat.cutA
  split
  · rename_i e
    subst e; intro hn; simp at hn; omega
  · exact h.cut _ _
structure ET (P : Program) (E : TypeId) (zv : Value) (z b : Nat) : Prop where
  i : (P.info? E).map (fun i => (i.zero, i.size, i.bytes)) = some (some zv, z, b)
  c : zv.cells.size = z
  p : 0 < z
theorem xjc {w : World} {base e z n : Nat} {v : Value} {xs : List Value} (h : w.ownsRow base e z v n xs) : ∃ A c, v = .slice A n c ∧ n ≤ c ∧ c ≤ maxLen ∧ Rd w A xs := by
  obtain ⟨hl, h⟩ := h; rcases h with ⟨rfl, rfl⟩ | ⟨g, cap, cur, rfl, hg, hh, hn, hm, hs, ht⟩
  · have : xs = [] := List.eq_nil_of_length_eq_zero (by simpa using hl)
    subst this; exact ⟨none, 0, rfl, Nat.le_refl _, by simp, Rd.nil _ _⟩
  · have hb : Blk w g e cur.toList := by simpa [Blk] using hh
    refine ⟨_, cap, rfl, hn, hm, ?_⟩; rw [← ht]; have := Rd.of_blk hb 0 (n * z) (by simp; rw [hs]; exact Nat.mul_le_mul_right _ hn); simpa using this
structure AT (P : Program) (T : TypeId) (n : Nat) : Prop where
  u : ∃ d, P.underlying T = some d ∧ (match d with | .struct _ | .array _ _ => true | _ => false) = true
  i : (P.info? T).map (·.size) = some n
theorem xa6 {n : Nat} (B : AT P T n) (x : Operand) (ho : o.op = .load T x) (g t : Nat) (cs : List Value) (hx : a.eval x = .pointer (some ⟨g, 0, none⟩)) (hb : Blk w g t cs) (hn : cs.length = n) :
    (execOp a.eval o).run P w = .ok (.value (.agg cs.toArray)) w := by
  obtain ⟨d, hu, hd⟩ := B.u; unfold execOp; simp only [ho, hx, Instr.loadAt, Instr.sureAddr, Sem.run_bind, Sem.run_pure, Result.andThen_ok, run_loadVar_row w g t T cs.toArray (0, 0) d hb hu (by clear hb; cases d <;> simp_all) (by rw [B.i]; simp [hn])]
def Sl1 (w : World) (v : Value) (l : List UInt8) : Prop := ∃ A c, v = .slice A l.length c ∧ l.length ≤ c ∧ Rd w A (bvs l)
theorem Sl1.below {w w' : World} {v : Value} {l : List UInt8} (h : Sl1 w v l) (hb : Below w.heap.size w w') : Sl1 w' v l := by
  obtain ⟨A, c, e, hc, hr⟩ := h; exact ⟨A, c, e, hc, hr.below hb⟩
def AllRd (w : World) (vs : List Value) (ls : List (List UInt8)) : Prop := vs.length = ls.length ∧ ∀ (i : Nat) (v : Value) (l : List UInt8), vs[i]? = some v → ls[i]? = some l → Sl1 w v l
theorem AllRd.nil (w : World) : AllRd w [] [] := ⟨rfl, fun i v l h => by simp at h⟩
theorem AllRd.cons {w : World} {v : Value} {l : List UInt8} {vs : List Value} {ls : List (List UInt8)} (h : Sl1 w v l) (hs : AllRd w vs ls) : AllRd w (v :: vs) (l :: ls) :=
  ⟨by simp [hs.1], fun i u k hu hk => by
    cases i with
    | zero => simp at hu hk; subst hu; subst hk; exact h
    | succ i => exact hs.2 i u k (by simpa using hu) (by simpa using hk)⟩
end
end Go.Proofs.YtkjjdgnkelchfaaGreat
namespace Go.Proofs.YtkjjdgnkelchfaaGreat
open Go Go.RowKit Go.ChangeShapes Go.WideShapes Go.ChangeAt
section
variable {H : Type} {enc : TypeId × Value → H} {P : Program} {W : World} {base : Nat}
theorem xm0 {z : Int} (h : (Lit.int .u8 z).wf = true) : Value.int .u8 z = bv (UInt8.ofNat z.toNat) := by
  have hz : 0 ≤ z ∧ z ≤ 255 := by simpa [Lit.wf, IntKind.min, IntKind.max, IntKind.signed, IntKind.bits] using h
  unfold bv; congr 1; rw [UInt8.toNat_ofNat_of_lt' (by show _ < 256; omega)]; omega
end
end Go.Proofs.YtkjjdgnkelchfaaGreat
namespace Go.Proofs.YtkjjdgnkelchfaaGreat
open Go Go.RowKit
theorem bt : BT Tryz.prog 25 5 9 := ⟨Tryz.underlying25, Tryz.underlying5, Tryz.underlying9, by kernel_rfl⟩
section
variable {P : Program} {ops : Array Oper} {Q : Exit → Act → World → Prop} {S S' : World → Prop} {F : Nat → Bool}
def wpF (P : Program) (ops : Array Oper) (Q : Exit → Act → World → Prop) (S : World → Prop) (F : Nat → Bool) : Nat → Array Bool → Act → World → Prop
  | 0, listed, a, w => Region.ready .any ops listed = [] ∧ Q .normal a w
  | fuel + 1, listed, a, w =>
    (Region.ready .any ops listed = [] → Q .normal a w) ∧
    ∀ i ∈ Region.ready .any ops listed, wpOp P ops Q i (fun a' w' => (F i = false → S w') ∧ wpF P ops Q S F fuel (listed.setIfInBounds i true) a' w') a w
theorem xjd : ∀ (fuel : Nat) (listed : Array Bool) (a : Act) (w : World), wpF P ops Q S F fuel listed a w → wpAny P .any ops Q fuel listed a w
  | 0, _, _, _, h => h
  | fuel + 1, _, _, _, h => ⟨h.1, fun i hi => wpOp_mono (fun a' w' h' => xjd fuel _ a' w' h'.2) (h.2 i hi)⟩
theorem xhq {i : Nat} {oi : Oper} {v : Value} (hi : ops[i]? = some oi) (hsel : ∀ (j : Nat) (o : Oper) cs b, ops[j]? = some o → o.op ≠ .select cs b)
    (hQ : ∀ c a w, Q (.panic c) (a.put oi.dst v) w → Q (.panic c) a w) :
    ∀ (fuel : Nat) (listed : Array Bool) (a : Act) (w : World),
      (∀ j oj, ops[j]? = some oj → j ≠ i → listed.getD j true = false → (∀ e ∈ oj.after, Region.binds .any e = true → e.on ≠ i) → oi.apart ops oj = true ∧ F j = false) →
      i ∈ Region.ready .any ops listed → YieldsIf P ops S oi v a → S w →
      wpF P ops Q S F fuel (listed.setIfInBounds i true) (a.put oi.dst v) w → wpF P ops Q S F (fuel + 1) listed a w
  | fuel, listed, a, w, hfree, hr, hy, hS, H => by
    refine ⟨fun h => (by rw [h] at hr; cases hr), fun j hj => ?_⟩; by_cases hji : j = i
    · subst hji; exact hy.wpOp hi hS ⟨fun _ => hS, H⟩
    · cases fuel with
      | zero =>
        have := ready_mono hj hji; rw [H.1] at this; cases this
      | succ fuel =>
        have h1 := H.2 j (ready_mono hj hji); obtain ⟨hjun, oj, hoj, hall⟩ := mem_ready.1 hj
        have hnot : ∀ e ∈ oj.after, Region.binds .any e = true → e.on ≠ i := fun e he hb heq => by
          have h1 := hall e he hb; have h0 := (mem_ready.1 hr).1; rw [heq] at h1; rcases Nat.lt_or_ge i listed.size with h' | h'
          · simp [h'] at h0 h1; rw [h0] at h1; cases h1
          · simp [Array.getElem?_eq_none h'] at h1
        obtain ⟨hap, hFj⟩ := hfree j oj hoj hji hjun hnot; have h2 := wpOp_putIf hoj hap (fun cs b => hsel i oi cs b hi) (fun cs b => hsel j oj cs b hoj) hQ hy h1
        have hfree' : ∀ k ok, ops[k]? = some ok → k ≠ i → (listed.setIfInBounds j true).getD k true = false →
            (∀ e ∈ ok.after, Region.binds .any e = true → e.on ≠ i) → oi.apart ops ok = true ∧ F k = false := fun k ok hk hki hun hno => by
          refine hfree k ok hk hki ?_ hno; by_cases hjk : j = k
          · subst hjk; exact hjun
          · rw [getD_set_ne true hjk] at hun; exact hun
        refine wpOp_mono (fun a' w' h3 => ⟨h3.2.1, xhq hi hsel hQ fuel (listed.setIfInBounds j true) a' w' hfree' (ready_mono hr (Ne.symm hji)) h3.1 (h3.2.1 hFj) ?_⟩) h2; rw [Array.setIfInBounds_comm _ _ hji]; exact h3.2.2
def freeF (ops : Array Oper) (F : Nat → Bool) (listed : Array Bool) (i : Nat) : Bool :=
  match ops[i]? with
  | none => false
  | some oi => (Region.ready .any ops listed).contains i && Region.noSelect ops && (List.range ops.size).all fun j => j == i || listed.getD j true || match ops[j]? with
      | some oj => oj.after.any (fun e => Region.binds .any e && e.on == i) || (oi.apart ops oj && !F j)
      | none => true
theorem xje {i : Nat} {oi : Oper} {listed : Array Bool} (hi : ops[i]? = some oi) (h : freeF ops F listed i = true) :
    i ∈ Region.ready .any ops listed ∧ Region.noSelect ops = true ∧ ∀ (j : Nat) (oj : Oper), ops[j]? = some oj → j ≠ i → listed.getD j true = false →
      (∀ e ∈ oj.after, Region.binds .any e = true → e.on ≠ i) → oi.apart ops oj = true ∧ F j = false := by
  simp only [freeF, hi, Bool.and_eq_true, List.all_eq_true, List.mem_range] at h; refine ⟨by simpa using h.1.1, h.1.2, fun j oj hj hne hun hno => ?_⟩; have h1 := h.2 j (Array.getElem?_eq_some_iff.1 hj).1; simp only [hj, Bool.or_eq_true, beq_iff_eq, hne, false_or, hun, Bool.false_eq_true, Bool.and_eq_true, Bool.not_eq_true'] at h1; rcases h1 with h1 | h1
  · obtain ⟨e, he, hb⟩ := Array.any_eq_true'.1 h1
    simp only [Bool.and_eq_true, beq_iff_eq] at hb; exact absurd hb.2 (hno e he hb.1)
  · exact h1
def listed (n : Nat) : List Nat → Array Bool
  | [] => Array.replicate n false
  | i :: dn => (listed n dn).setIfInBounds i true
def xdq (ops : Array Oper) (F pl : List Nat) : List Nat → List Nat → Bool
  | _, [] => true
  | dn, i :: ord => (if pl.contains i then Region.ready .any ops (listed ops.size dn) == [i] else freeF ops (F.contains ·) (listed ops.size dn) i) && xdq ops F pl (i :: dn) ord
def wpT (P : Program) (ops : Array Oper) (Q : Exit → Act → World → Prop) (S : World → Prop) (F pl : List Nat) (g : Nat) (dn : List Nat) (rest : List (Nat × Oper)) (a : Act) (w : World) : Prop :=
  (∀ x ∈ rest, ops[x.1]? = some x.2) → xdq ops F pl dn (rest.map (·.1)) = true → (∀ c (a a' : Act) w, a'.defers = a.defers → Q (.panic c) a' w → Q (.panic c) a w) →
    wpF P ops Q S (F.contains ·) (rest.length + g) (listed ops.size dn) a w
def pick (l : List Oper) (ord : List Nat) : List (Nat × Oper) := ord.map fun i => (i, l.getD i default)
theorem xm1 (l : List Oper) (ord : List Nat) : (pick l ord).map (·.1) = ord := by simp [pick, Function.comp_def]
theorem xlp {l : List Oper} {ord : List Nat} (h : ord.all (· < l.length) = true) : ∀ x ∈ pick l ord, l.toArray[x.1]? = some x.2 := fun x hx => by
  obtain ⟨i, hi, rfl⟩ := List.mem_map.1 hx; have hlt : i < l.length := by simpa using List.all_eq_true.1 h i hi
  simp [hlt]
theorem xm2 (a : Act) (d : Option Tmp) (v : Value) : (a.put d v).defers = a.defers := by cases d <;> rfl
section
variable {F pl : List Nat} {g : Nat}
theorem xm3 (S : World → Prop) (F pl ord : List Nat) (g : Nat) {l : List Oper} {id : Nat} {a : Act} {w : World} (hm : P.follows .mixedOrders = true)
    (hp : (xdq l.toArray F pl [] ord && ord.length + g == l.length && ord.all (· < l.length)) = true) (hQ : ∀ c (a a' : Act) w, a'.defers = a.defers → Q (.panic c) a' w → Q (.panic c) a w)
    (h : wpT P l.toArray Q S F pl g [] (pick l ord) a w.drew) : (Code.region id l.toArray true).wp P Q a w := by
  simp only [Bool.and_eq_true, beq_iff_eq] at hp; obtain ⟨⟨h1, h2⟩, h3⟩ := hp; have h4 := h (xlp h3) (by rw [xm1]; exact h1) hQ; have e : (pick l ord).length + g = l.toArray.size := by simp [pick, h2]
  rw [e] at h4; exact wp_region_any hm (xjd _ _ _ _ h4)
theorem xab {i : Nat} {dn : List Nat} {o : Oper} {rest : List (Nat × Oper)} {v : Value} {a : Act} {w : World} (hk : pl.contains i = false) (hw : Region.wanted o (yielded ops a.tmps) = true)
    (hS : S w) (hy : ∀ w, S w → (execOp a.eval o).run P w = .ok (.value v) w)
    (h : wpT P ops Q S F pl g (i :: dn) rest (a.put o.dst v) w) : wpT P ops Q S F pl g dn ((i, o) :: rest) a w := by
  intro hr hp hQ; have hi := hr (i, o) (by simp); simp only [qk, xdq, Bool.and_eq_true, hk, Bool.false_eq_true, if_false] at hp; have h1 := h (fun x hx => hr x (by simp [hx])) hp.2 hQ; obtain ⟨g1, g2, g3⟩ := xje hi hp.1; rw [show ((i, o) :: rest).length + g = (rest.length + g) + 1 by simp; omega]; exact xhq hi (Region.noSelect_spec g2) (fun c a w hh => hQ c a _ w (xm2 _ _ _) hh) _ _ a w g3 g1 (.inl ⟨hw, hy⟩) hS h1
theorem rg_skip {i : Nat} {dn : List Nat} {o : Oper} {rest : List (Nat × Oper)} {a : Act} {w : World} (hk : pl.contains i = false) (hw : Region.wanted o (yielded ops a.tmps) = false)
    (hS : S w) (h : wpT P ops Q S F pl g (i :: dn) rest (a.put o.dst undef) w) : wpT P ops Q S F pl g dn ((i, o) :: rest) a w := by
  intro hr hp hQ; have hi := hr (i, o) (by simp); simp only [qk, xdq, Bool.and_eq_true, hk, Bool.false_eq_true, if_false] at hp; have h1 := h (fun x hx => hr x (by simp [hx])) hp.2 hQ; obtain ⟨g1, g2, g3⟩ := xje hi hp.1; rw [show ((i, o) :: rest).length + g = (rest.length + g) + 1 by simp; omega]; exact xhq hi (Region.noSelect_spec g2) (fun c a w hh => hQ c a _ w (xm2 _ _ _) hh) _ _ a w g3 g1 (.inr ⟨hw, rfl⟩) hS h1
theorem xc7 {i : Nat} {dn : List Nat} {o : Oper} {rest : List (Nat × Oper)} {a : Act} {w : World} (hk : pl.contains i = true) (hw : Region.wanted o (yielded ops a.tmps) = true)
    (h : ∀ K : Act → World → Prop, (∀ a' w', (F.contains i = false → S w') → wpT P ops Q S F pl g (i :: dn) rest a' w' → K a' w') → o.wp P a w K Q) : wpT P ops Q S F pl g dn ((i, o) :: rest) a w := by
  intro hr hp hQ; have hi := hr (i, o) (by simp); simp only [qk, xdq, Bool.and_eq_true, hk, if_true, beq_iff_eq] at hp; rw [show ((i, o) :: rest).length + g = (rest.length + g) + 1 by simp; omega]; refine ⟨fun h0 => (by rw [hp.1] at h0; cases h0), fun j hj => ?_⟩; rw [hp.1] at hj; obtain rfl : j = i := by simpa using hj
  unfold wpOp; simp only [hi, hw, if_true]; exact .inl (h _ fun a' w' h1 h2 => ⟨h1, h2 (fun x hx => hr x (by simp [hx])) hp.2 hQ⟩)
theorem rg_pass {i : Nat} {dn : List Nat} {o : Oper} {rest : List (Nat × Oper)} {a : Act} {w : World} (hk : pl.contains i = true) (hw : Region.wanted o (yielded ops a.tmps) = false)
    (hS : S w) (h : wpT P ops Q S F pl g (i :: dn) rest (a.put o.dst undef) w) : wpT P ops Q S F pl g dn ((i, o) :: rest) a w := by
  intro hr hp hQ; have hi := hr (i, o) (by simp); simp only [qk, xdq, Bool.and_eq_true, hk, if_true, beq_iff_eq] at hp; rw [show ((i, o) :: rest).length + g = (rest.length + g) + 1 by simp; omega]; refine ⟨fun h0 => (by rw [hp.1] at h0; cases h0), fun j hj => ?_⟩; rw [hp.1] at hj; obtain rfl : j = i := by simpa using hj
  unfold wpOp; simp only [hi, hw, Bool.false_eq_true, if_false]; exact ⟨fun _ => hS, h (fun x hx => hr x (by simp [hx])) hp.2 hQ⟩
theorem rg_done {dn : List Nat} {a : Act} {w : World} (hp : (Region.ready .any ops (listed ops.size dn) == []) = true) (h : Q .normal a w) : wpT P ops Q S F pl 0 dn [] a w := by
  intro _ _ _; exact ⟨by simpa using hp, h⟩
end
end
theorem xqa (l : List UInt8) (i : Nat) (x : UInt8) : (bvs l).set i (bv x) = bvs (l.set i x) := by simp [bvs, List.map_set]
theorem mixed : Tryz.prog.follows .mixedOrders = true := by kernel_rfl
theorem rB (S : World → Prop) (F pl ord : List Nat) (g : Nat) {Q : Exit → Act → World → Prop} {l : List Oper} {id : Nat} {a : Act} {w : World} (h : wpT Tryz.prog l.toArray Q S F pl g [] (pick l ord) a w.drew)
    (hp : (xdq l.toArray F pl [] ord && ord.length + g == l.length && ord.all (· < l.length)) = true := by kernel_rfl)
    (hQ : ∀ c (a a' : Act) w, a'.defers = a.defers → Q (.panic c) a' w → Q (.panic c) a w := by exact fun _ _ _ _ e hh => ⟨e.symm.trans hh.1, hh.2⟩) : (Code.region id l.toArray true).wp Tryz.prog Q a w := xm3 S F pl ord g mixed hp hQ h
theorem _root_.Go.World.grownBy.trans' {a b c : World} {row : Option Nat} (h : a.grownBy b row) (k : b.grownBy c row) : a.grownBy c row :=
  ⟨k.os.trans h.os, k.tape.trans h.tape, k.output.trans h.output, Nat.le_trans h.size k.size, fun i hi hs => (k.block i (Nat.lt_of_lt_of_le hi h.size) hs).trans (h.block i hi hs)⟩
theorem xcp (w : World) (g i : Nat) (u : Value) : w.grownBy (w.setCell ⟨g, i, none⟩ u) (some g) :=
  ⟨rfl, rfl, rfl, by simp, fun k _ hne => Below.heap_setCell w ⟨g, i, none⟩ u k (fun e => hne (by rw [e]))⟩
theorem ret_i {k : IntKind} {a b : Int} (h : a = b) : Ending.returned (.int k a) = .returned (.int k b) := by rw [h]
def xde (x n : Int) : Int := x % n
theorem xku (x n : Int) (hn : 0 < n) : 0 ≤ xde x n ∧ xde x n < n := ⟨Int.emod_nonneg _ (by omega), Int.emod_lt_of_pos _ hn⟩
theorem xkv (x n : Int) (hn : 0 < n) : (x.tmod n < 0 → x.tmod n + n = xde x n) ∧ (¬ x.tmod n < 0 → x.tmod n = xde x n) := by
  unfold xde; have h1 := Int.tmod_eq_emod (a := x) (b := n); have h2 := Int.emod_nonneg x (show n ≠ 0 by omega); have h3 := Int.emod_lt_of_pos x hn; rw [h1]; by_cases hx : 0 ≤ x ∨ n ∣ x
  · simp only [hx, if_true]; constructor <;> intro h <;> omega
  · simp only [hx, if_false, Int.natAbs_of_nonneg (Int.le_of_lt hn)]; constructor <;> intro h <;> omega
theorem xm4 (x n : Int) (w : World) (hn : 0 < n) (hn' : n ≤ 9223372036854775807) (hx : -9223372036854775808 ≤ x ∧ x ≤ 9223372036854775807) :
   Calls Tryz.prog 22 #[.int .i64 x, .int .i64 n] w fun e w' => e = .returned (.int .i64 (xde x n)) ∧ w = w' := by
  have h := hZ (xkv x n hn); have hb := Int.tmod_lt_of_pos x hn
  have hb' : -n ≤ x.tmod n := by
    by_cases hh : x.tmod n < 0
    · have h1 := (xkv x n hn).1 hh
      have h2 := (xku x n hn).1; omega
    · omega
  have h0 : (n == 0) = false := by simp; omega
  go_enter Tryz.func22, Tryz.ntmps22
  go_wp2
  all_goals go_ret
  · exact ⟨ret_i (h.out.1 (by assumption)), rfl⟩
  · exact ⟨ret_i (h.out.2 (by omega)), rfl⟩
theorem st24 : ST Tryz.prog 25 5 1 := bt.st
theorem xit (ls : List (List UInt8)) (k : Nat) : (ls.take k).flatten.length ≤ ls.flatten.length := by
  induction ls generalizing k with
  | nil => simp
  | cons l ls ih =>
    cases k with
    | zero => simp
    | succ k => have := ih k; simp; simp at this; exact this
theorem xdf (ls : List (List UInt8)) (k : Nat) (h : k < ls.length) : (ls.take (k + 1)).flatten = (ls.take k).flatten ++ ls[k] := by
  rw [List.take_succ_eq_append_getElem h, List.flatten_append]; simp only [List.flatten_cons, List.flatten_nil, qu]
theorem xes (ls : List (List UInt8)) (k : Nat) (h : k < ls.length) : (ls.take k).flatten.length + ls[k].length ≤ ls.flatten.length := by
  have := xit ls (k + 1); rw [xdf ls k h] at this; simpa using this
theorem xrk (A : Option Addr) (c : Nat) (vs : List Value) (ls : List (List UInt8)) (w : World) (hr : Rd w A vs) (ha : AllRd w vs ls) (hn : ls.length ≤ 9223372036854775807) (hb : ls.flatten.length ≤ 140737488355328) :
   Calls Tryz.prog 79 #[.slice A ls.length c] w fun e w' => ∃ v, e = .returned v ∧ OwnB w' w.heap.size 5 v ls.flatten ∧ Below w.heap.size w w' := by
  have HL := hZ ha.1; go_enter Tryz.func79, Tryz.ntmps79; go_wp2_with fail
  go_loopw [3, 8] (fun out i wr => ∃ k : Nat, k ≤ ls.length ∧ i = .int .i64 (k : Int) ∧ OwnB wr w.heap.size 5 out (ls.take k).flatten ∧ Below w.heap.size w wr) (fun _ i _ => ls.length - (intOf i).toNat)
  case atStart => exact ⟨0, by omega, by go_num, OwnB.nil _ _ _, Below.refl _ _⟩
  case round =>
    obtain ⟨k, hk, rfl, ho, hw⟩ := hrel; by_cases hlt : k < ls.length
    · obtain ⟨v, hv⟩ : ∃ v, vs[k]? = some v := ⟨_, List.getElem?_eq_getElem (by have := HL.out; omega)⟩
      obtain ⟨ad, rfl, hcc⟩ := hr (by have := HL.out; omega); have hc : wr.cell? (ad.add k) = some v := (hw.cell (World.block_lt_of_cell? w _ (hcc k v hv))).trans (hcc k v hv); obtain ⟨A, d, rfl, hd, hrd⟩ := ha.2 k v ls[k] hv (List.getElem?_eq_getElem hlt); have hlen := xes ls k hlt; have HF := hZ (xdf ls k hlt); go_wp2_with ((with_reducible refine xat 14 ?_); refine xbv bt rfl (.tmp 12) (.tmp 13) rfl w.heap.size u3 _ rfl ho A ls[k].length d ls[k] rfl rfl (hrd.below hw) (by omega) hw.size ?_; intro v1 w1 ho1 hg1 _); go_roundw
      case rel => exact ⟨k + 1, by omega, by go_num, by rw [HF.out]; exact ho1, hw.grown hg1 hw.size (fun g hg => (ho.lt g hg).1)⟩
      case measure => simp [intOf]; omega
    · obtain rfl : k = ls.length := by omega
      go_wp2
      go_ret; rw [List.take_length] at ho; exact ⟨u3, rfl, ho, hw⟩
theorem xjf (A : Option Addr) (n c : Nat) (vs : List Value) (ls : List (List UInt8)) (w : World) (hl : ls.length = n) (hr : Rd w A vs) (ha : AllRd w vs ls) (hn : ls.length ≤ 9223372036854775807) (hb : ls.flatten.length ≤ 140737488355328) :
   Calls Tryz.prog 79 #[.slice A n c] w fun e w' => ∃ v, e = .returned v ∧ OwnB w' w.heap.size 5 v ls.flatten ∧ Below w.heap.size w w' := by
  subst hl; exact xrk A c vs ls w hr ha hn hb
theorem Rd.one_blk {w : World} {g t : Nat} {u : Value} (h : Blk w g t [u]) : Rd w (some ⟨g, 0, none⟩) [u] := Rd.of_blk0 (es := []) (by simpa using h)
def arr8 (k : List UInt8) : Value := .agg (bvs k).toArray
def be : Nat → Nat → List UInt8
  | 0, _ => []
  | n + 1, v => be n (v / 256) ++ [UInt8.ofNat v]
theorem xaq (n v : Nat) : (be n v).length = n := by induction n generalizing v <;> simp [be, *]
def putL (n : Nat) (m v : Int) : List UInt8 := if 0 ≤ v ∧ v ≤ m then be n v.toNat else []
def putE (m v : Int) : Int := if 0 ≤ v ∧ v ≤ m then 0 else 2
theorem bv_wrap (z : Int) (h : 0 ≤ z) : Value.int .u8 (IntKind.u8.wrap z) = bv (UInt8.ofNat z.toNat) := by
  unfold bv; congr 1; rw [IntKind.wrap_u8, UInt8.toNat_ofNat']; omega
theorem xe3 (z : Int) (h : 0 ≤ z) : Value.int .u8 (z % 256) = bv (UInt8.ofNat z.toNat) := by
  rw [← bv_wrap z h, IntKind.wrap_u8]
theorem xgz (z : Int) (h : 0 ≤ z) (h' : z ≤ 255) : Value.int .u8 z = bv (UInt8.ofNat z.toNat) := by
  rw [← xe3 z h, Int.emod_eq_of_lt h (by omega)]
theorem put16 (n : Int) (w : World) (hn : -9223372036854775808 ≤ n ∧ n ≤ 9223372036854775807) :
    Calls Tryz.prog 101 #[.int .i64 n] w fun e w' => ∃ v, e = .returned (.tuple #[v, .int .i64 (putE 65535 n)]) ∧ OwnB w' w.heap.size 5 v (putL 2 65535 n) ∧ Below w.heap.size w w' := by
  by_cases h0 : n < 0
  · have e1 : putE 65535 n = 2 := by unfold putE; rw [if_neg (by omega)]
    have e2 : putL 2 65535 n = [] := by unfold putL; rw [if_neg (by omega)]
    rw [e1, e2]; clear e1 e2; go_enter Tryz.func101, Tryz.ntmps101
    go_wp2
    go_ret2; exact ⟨_, rfl, OwnB.nil _ _ _, Below.refl _ _⟩
  · by_cases h1 : 65535 < n
    · have e1 : putE 65535 n = 2 := by unfold putE; rw [if_neg (by omega)]
      have e2 : putL 2 65535 n = [] := by unfold putL; rw [if_neg (by omega)]
      rw [e1, e2]; clear e1 e2; go_enter Tryz.func101, Tryz.ntmps101
      go_wp2
      go_ret2; exact ⟨_, rfl, OwnB.nil _ _ _, Below.refl _ _⟩
    · have e1 : putE 65535 n = 0 := by unfold putE; rw [if_pos (by omega)]
      have e2 : putL 2 65535 n = [UInt8.ofNat (n / 256).toNat, UInt8.ofNat n.toNat] := by
        unfold putL; rw [if_pos (by omega)]; have : n.toNat / 256 = (n / 256).toNat := by omega
        simp [be, this]
      rw [e1, e2]; clear e1 e2; go_enter Tryz.func101, Tryz.ntmps101
      go_wp2
      go_ret2; have e := Blk.new w 5 [Value.int .u8 (n / 256), Value.int .u8 (n % 256)]; rw [xgz (n / 256) (by omega) (by omega), xe3 n (by omega)] at e; refine ⟨_, rfl, .inr ⟨w.heap.size, [], rfl, Nat.le_refl _, by unfold maxLen; simp, ?_⟩, (Below.refl _ _).alloc (Nat.le_refl _) _⟩; rw [xgz (n / 256) (by omega) (by omega), xe3 n (by omega)]; exact e
theorem put32 (n : Int) (w : World) (hn : -9223372036854775808 ≤ n ∧ n ≤ 9223372036854775807) :
    Calls Tryz.prog 77 #[.int .i64 n] w fun e w' => ∃ v, e = .returned (.tuple #[v, .int .i64 (putE 4294967295 n)]) ∧ OwnB w' w.heap.size 5 v (putL 4 4294967295 n) ∧ Below w.heap.size w w' := by
  by_cases h0 : n < 0
  · have e1 : putE 4294967295 n = 2 := by unfold putE; rw [if_neg (by omega)]
    have e2 : putL 4 4294967295 n = [] := by unfold putL; rw [if_neg (by omega)]
    rw [e1, e2]; clear e1 e2; go_enter Tryz.func77, Tryz.ntmps77
    go_wp2
    go_ret2; exact ⟨_, rfl, OwnB.nil _ _ _, Below.refl _ _⟩
  · by_cases h1 : 4294967295 < n
    · have e1 : putE 4294967295 n = 2 := by unfold putE; rw [if_neg (by omega)]
      have e2 : putL 4 4294967295 n = [] := by unfold putL; rw [if_neg (by omega)]
      rw [e1, e2]; clear e1 e2; go_enter Tryz.func77, Tryz.ntmps77
      go_wp2
      go_ret2; exact ⟨_, rfl, OwnB.nil _ _ _, Below.refl _ _⟩
    · have e1 : putE 4294967295 n = 0 := by unfold putE; rw [if_pos (by omega)]
      have e2 : putL 4 4294967295 n = [UInt8.ofNat (n / 16777216).toNat, UInt8.ofNat (n / 65536).toNat, UInt8.ofNat (n / 256).toNat, UInt8.ofNat n.toNat] := by
        unfold putL; rw [if_pos (by omega)]; have a1 : n.toNat / 256 = (n / 256).toNat := by omega
        have a2 : (n / 256).toNat / 256 = (n / 65536).toNat := by omega
        have a3 : (n / 65536).toNat / 256 = (n / 16777216).toNat := by omega
        simp only [be, a3, a2, a1, qn, qm]
      rw [e1, e2]; clear e1 e2; go_enter Tryz.func77, Tryz.ntmps77
      go_wp2
      go_ret2; have e := Blk.new w 5 [bv (UInt8.ofNat (n / 16777216).toNat), bv (UInt8.ofNat (n / 65536).toNat), bv (UInt8.ofNat (n / 256).toNat), bv (UInt8.ofNat n.toNat)]; rw [← xe3 n (by omega), ← xe3 (n / 256) (by omega), ← xe3 (n / 65536) (by omega), ← xgz (n / 16777216) (by omega) (by omega)] at e; refine ⟨_, rfl, .inr ⟨w.heap.size, [], rfl, Nat.le_refl _, by unfold maxLen; simp, ?_⟩, (Below.refl _ _).alloc (Nat.le_refl _) _⟩; simp only [bvs, qu, qk, ql]; rw [← xe3 n (by omega), ← xe3 (n / 256) (by omega), ← xe3 (n / 65536) (by omega), ← xgz (n / 16777216) (by omega) (by omega)]; exact e
theorem xqb (j v : Nat) : be (j + 1) v = UInt8.ofNat (v / 256 ^ j) :: be j v := by
  induction j generalizing v with
  | zero => simp [be]
  | succ j ih =>
    rw [be, ih, be, Nat.div_div_eq_div_mul, ← Nat.pow_succ']; rfl
def nOf (l : List UInt8) : Nat := l.foldl (fun a x => 256 * a + x.toNat) 0
theorem xrl (l : List UInt8) (a : Nat) : l.foldl (fun a x => 256 * a + x.toNat) a = a * 256 ^ l.length + nOf l := by
  induction l generalizing a with
  | nil => simp [nOf]
  | cons x l ih =>
    have h1 := ih (256 * a + x.toNat); have h2 := ih (256 * 0 + x.toNat); unfold nOf at h1 h2 ⊢; simp only [List.foldl_cons, qr]; rw [h1, h2, Nat.pow_succ]; simp only [Nat.add_mul, Nat.mul_zero, Nat.zero_add, Nat.zero_mul]
    have : 256 * a * 256 ^ l.length = a * (256 ^ l.length * 256) := by
      rw [Nat.mul_comm 256 a, Nat.mul_assoc, Nat.mul_comm 256]
    omega
theorem xgp (l m : List UInt8) : nOf (l ++ m) = nOf l * 256 ^ m.length + nOf m := by
  unfold nOf; rw [List.foldl_append, xrl]; rfl
theorem xg0 (x : UInt8) (l : List UInt8) : nOf (x :: l) = x.toNat * 256 ^ l.length + nOf l := by
  have := xgp [x] l; simpa [nOf] using this
theorem xhr (l : List UInt8) : nOf l < 256 ^ l.length := by
  induction l with
  | nil => simp [nOf]
  | cons x l ih =>
    rw [xg0, List.length_cons, Nat.pow_succ]; have hx := x.toNat_lt; have h1 : x.toNat * 256 ^ l.length ≤ 255 * 256 ^ l.length := Nat.mul_le_mul_right _ (by omega); omega
theorem xo2 (l : List UInt8) : be l.length (nOf l) = l := by
  induction l with
  | nil => rfl
  | cons x l ih =>
    rw [List.length_cons, xqb, xg0]; have hp : 0 < 256 ^ l.length := Nat.pow_pos (by omega)
    have h1 : (x.toNat * 256 ^ l.length + nOf l) / 256 ^ l.length = x.toNat := by
      rw [Nat.mul_comm, Nat.mul_add_div hp, Nat.div_eq_of_lt (xhr l)]; omega
    have h2 : be l.length (x.toNat * 256 ^ l.length + nOf l) = be l.length (nOf l) := by
      have : ∀ n a b, be n (a * 256 ^ n + b) = be n b := by
        intro n
        induction n with
        | zero => intro a b; rfl
        | succ n ih =>
          intro a b; rw [be, be]
          have e1 : (a * 256 ^ (n + 1) + b) / 256 = a * 256 ^ n + b / 256 := by
            rw [Nat.pow_succ, ← Nat.mul_assoc, Nat.mul_comm _ 256, Nat.mul_add_div (by omega)]
          have e2 : UInt8.ofNat (a * 256 ^ (n + 1) + b) = UInt8.ofNat b := by
            apply UInt8.toNat_inj.1; rw [UInt8.toNat_ofNat', UInt8.toNat_ofNat', Nat.pow_succ, ← Nat.mul_assoc]; omega
          rw [e1, e2, ih]
      exact this _ _ _
    rw [h1, h2, ih, UInt8.ofNat_toNat]
theorem xjg (n v : Nat) : nOf (be n v) = v % 256 ^ n := by
  induction n generalizing v with
  | zero => simp [be, nOf, Nat.mod_one]
  | succ n ih =>
    rw [be, xgp, ih]; have : nOf [UInt8.ofNat v] = v % 256 := by simp [nOf, UInt8.toNat_ofNat']
    rw [this, List.length_singleton, Nat.pow_one, Nat.pow_succ, Nat.mul_comm (256 ^ n) 256, Nat.mod_mul]; omega
theorem xqc {l m : List UInt8} (h : l.length = m.length) (e : nOf l = nOf m) : l = m := by
  rw [← xo2 l, ← xo2 m, h, e]
def tb (p : List UInt8) (d : Nat) : Bool := ((p.getD (d / 8) 0).toNat).testBit (7 - d % 8)
theorem getD_be (n v i : Nat) (h : i < n) : (be n v).getD i 0 = UInt8.ofNat (v / 256 ^ (n - 1 - i)) := by
  induction n generalizing i with
  | zero => omega
  | succ n ih =>
    rw [xqb]
    cases i with
    | zero => simp
    | succ i =>
      rw [List.getD_cons_succ, ih i (by omega)]; congr 3; omega
theorem xdz (p : List UInt8) (hp : p.length = 32) (d : Nat) (hd : d < 256) : tb p d = (nOf p).testBit (255 - d) := by
  have e := xo2 p; rw [hp] at e
  have h1 : p.getD (d / 8) 0 = UInt8.ofNat (nOf p / 256 ^ (31 - d / 8)) := by
    have := getD_be 32 (nOf p) (d / 8) (by omega); rwa [e] at this
  have h2 : (256 : Nat) ^ (31 - d / 8) = 2 ^ (8 * (31 - d / 8)) := by rw [Nat.pow_mul]
  have h3 : (UInt8.ofNat (nOf p / 256 ^ (31 - d / 8))).toNat = nOf p / 2 ^ (8 * (31 - d / 8)) % 2 ^ 8 := by rw [UInt8.toNat_ofNat', h2]
  have h4 : decide (7 - d % 8 < 8) = true := by simp; omega
  have h5 : 7 - d % 8 + 8 * (31 - d / 8) = 255 - d := by omega
  unfold tb; rw [h1, h3, Nat.testBit_mod_two_pow, Nat.testBit_div_two_pow, h4, h5, Bool.true_and]
theorem xet {p : List UInt8} (hp : p.length = 32) : nOf p < 2 ^ 256 := by
  have := xhr p; rw [hp] at this; rwa [show (256 : Nat) ^ 32 = 2 ^ 256 by decide +kernel] at this
theorem xqd {p q : List UInt8} (hp : p.length = 32) (hq : q.length = 32) (h : ∀ d, d < 256 → tb p d = tb q d) : p = q := by
  apply xqc (by omega); apply Nat.eq_of_testBit_eq; intro j; by_cases hj : j < 256
  · have := h (255 - j) (by omega)
    rw [xdz p hp _ (by omega), xdz q hq _ (by omega)] at this; rwa [show 255 - (255 - j) = j by omega] at this
  · have hle : 2 ^ 256 ≤ 2 ^ j := Nat.pow_le_pow_right (by omega) (by omega)
    rw [Nat.testBit_lt_two_pow (Nat.lt_of_lt_of_le (xet hp) hle), Nat.testBit_lt_two_pow (Nat.lt_of_lt_of_le (xet hq) hle)]
theorem key_of {p : List UInt8} (hp : p.length = 32) {n : Nat} (hn : n < 2 ^ 256) (h : ∀ d, d < 256 → tb p d = n.testBit (255 - d)) : p = be 32 n := by
  apply xqd hp (xaq _ _); intro d hd; rw [h d hd, xdz _ (xaq _ _) d hd, xjg, show (256 : Nat) ^ 32 = 2 ^ 256 by decide +kernel, Nat.mod_eq_of_lt hn]
theorem nOf_key {n : Nat} (hn : n < 2 ^ 256) : nOf (be 32 n) = n := by
  rw [xjg, show (256 : Nat) ^ 32 = 2 ^ 256 by decide +kernel, Nat.mod_eq_of_lt hn]
def bitZ (p : List UInt8) (d : Int) : Int := if 0 ≤ d ∧ d < 256 then ((tb p d.toNat).toNat : Int) else -1
def comm (p q : List UInt8) : Nat := (List.range 256).findIdx fun d => tb p d != tb q d
theorem comm_le (p q : List UInt8) : comm p q ≤ 256 := by
  have := List.findIdx_le_length (xs := List.range 256) (p := fun d => tb p d != tb q d); simpa [comm] using this
theorem xkw (p q : List UInt8) (d : Nat) (h : d < comm p q) : tb p d = tb q d := by
  have h1 := List.not_of_lt_findIdx (p := fun d => tb p d != tb q d) (xs := List.range 256) h; simpa using h1
theorem xek (p q : List UInt8) (h : comm p q < 256) : tb p (comm p q) ≠ tb q (comm p q) := by
  have h1 := List.findIdx_getElem (p := fun d => tb p d != tb q d) (xs := List.range 256) (w := by simpa [comm] using h); have h2 : (List.range 256)[(List.range 256).findIdx fun d => tb p d != tb q d]'(by simpa [comm] using h) = comm p q := by simp [comm]
  rw [h2] at h1; simpa using h1
theorem xqe (p q : List UInt8) (c : Nat) (h : c ≤ 256) (h1 : ∀ d, d < c → tb p d = tb q d) (h2 : c < 256 → tb p c ≠ tb q c) : comm p q = c := by
  rcases Nat.lt_trichotomy (comm p q) c with hlt | he | hgt
  · exact absurd (h1 _ hlt) (xek p q (by omega))
  · exact he
  · have := comm_le p q
    exact absurd (xkw p q c hgt) (h2 (by omega))
theorem xrm (p : List UInt8) : comm p p = 256 := xqe p p 256 (by omega) (fun _ _ => rfl) (fun h => by omega)
theorem comm_ge {p q : List UInt8} (hp : p.length = 32) (hq : q.length = 32) (d : Nat) (hd : d ≤ 256) : d ≤ comm p q ↔ nOf p / 2 ^ (256 - d) = nOf q / 2 ^ (256 - d) := by
  constructor
  · intro h
    apply Nat.eq_of_testBit_eq; intro j; rw [Nat.testBit_div_two_pow, Nat.testBit_div_two_pow, Nat.add_comm j]; by_cases hj : 256 - d + j < 256
    · have := xkw p q (255 - (256 - d + j)) (by omega)
      rw [xdz p hp _ (by omega), xdz q hq _ (by omega)] at this; rwa [show 255 - (255 - (256 - d + j)) = 256 - d + j by omega] at this
    · have hle : 2 ^ 256 ≤ 2 ^ (256 - d + j) := Nat.pow_le_pow_right (by omega) (by omega)
      rw [Nat.testBit_lt_two_pow (Nat.lt_of_lt_of_le (xet hp) hle), Nat.testBit_lt_two_pow (Nat.lt_of_lt_of_le (xet hq) hle)]
  · intro h
    apply Nat.le_of_not_lt; intro hlt; have hc := xek p q (by omega); apply hc; rw [xdz p hp _ (by omega), xdz q hq _ (by omega)]
    have e : ∀ n : Nat, n.testBit (255 - comm p q) = (n / 2 ^ (256 - d)).testBit (255 - comm p q - (256 - d)) := by
      intro n; rw [Nat.testBit_div_two_pow]; congr 1; omega
    rw [e, e, h]
def cmpZ (a b : Nat) : Int := if a < b then -1 else if b < a then 1 else 0
theorem xij : ∀ (p q : List UInt8), p.length = q.length → Lib.compareBytes p q = cmpZ (nOf p) (nOf q)
  | [], [], _ => rfl
  | [], _ :: _, h => by simp at h
  | _ :: _, [], h => by simp at h
  | x :: l, y :: m, h => by
    have hl : l.length = m.length := by simpa using h
    rw [Lib.compareBytes, xg0, xg0, ← hl]; have h1 := xhr l; have h2 := xhr m; rw [← hl] at h2; by_cases hxy : x < y
    · rw [if_pos hxy]
      have : x.toNat + 1 ≤ y.toNat := hxy; have h3 : (x.toNat + 1) * 256 ^ l.length ≤ y.toNat * 256 ^ l.length := Nat.mul_le_mul_right _ this; rw [Nat.add_mul] at h3; unfold cmpZ; rw [if_pos (by omega)]
    · rw [if_neg hxy]
      by_cases hyx : y < x
      · rw [if_pos hyx]
        have : y.toNat + 1 ≤ x.toNat := hyx; have h3 : (y.toNat + 1) * 256 ^ l.length ≤ x.toNat * 256 ^ l.length := Nat.mul_le_mul_right _ this; rw [Nat.add_mul] at h3; unfold cmpZ; rw [if_neg (by omega), if_pos (by omega)]
      · rw [if_neg hyx]
        have : x.toNat = y.toNat := by
          have a1 : ¬ x.toNat < y.toNat := hxy; have a2 : ¬ y.toNat < x.toNat := hyx; omega
        rw [this, xij l m hl]; unfold cmpZ; by_cases ha : nOf l < nOf m
        · rw [if_pos ha, if_pos (by omega)]
        · by_cases hb : nOf m < nOf l
          · rw [if_neg ha, if_pos hb, if_neg (by omega), if_pos (by omega)]
          · rw [if_neg ha, if_neg hb, if_neg (by omega), if_neg (by omega)]
def xg1 (n d : Nat) (b : Bool) : Nat := 2 ^ (256 - d) * (n / 2 ^ (256 - d)) + (if b then 2 ^ (256 - d) - 1 else 0)
theorem xjh (d : Nat) (b : Bool) : (if b then 2 ^ (256 - d) - 1 else 0) < 2 ^ (256 - d) := by
  have : 0 < 2 ^ (256 - d) := Nat.pow_pos (by omega)
  split <;> omega
theorem xrn (n d : Nat) (b : Bool) : xg1 n d b / 2 ^ (256 - d) = n / 2 ^ (256 - d) := by
  unfold xg1; rw [Nat.mul_add_div (Nat.pow_pos (by omega)), Nat.div_eq_of_lt (xjh d b)]; omega
theorem xm5 (n d : Nat) (b : Bool) (hn : n < 2 ^ 256) (hd : d ≤ 256) : xg1 n d b < 2 ^ 256 := by
  have h1 : xg1 n d b / 2 ^ (256 - d) < 2 ^ d := by
    rw [xrn]; apply Nat.div_lt_of_lt_mul; rw [← Nat.pow_add, show 256 - d + d = 256 by omega]; exact hn
  have h2 := (Nat.div_lt_iff_lt_mul (Nat.pow_pos (n := 256 - d) (show 0 < 2 by omega))).1 h1; rwa [← Nat.pow_add, show d + (256 - d) = 256 by omega] at h2
theorem xkx (n d : Nat) (b : Bool) (e : Nat) (he : e < 256) (hd : d ≤ 256) : (xg1 n d b).testBit (255 - e) = if e < d then n.testBit (255 - e) else b := by
  unfold xg1; rw [Nat.testBit_two_pow_mul_add _ (xjh d b)]; by_cases h : e < d
  · rw [if_neg (by omega), if_pos h, Nat.testBit_div_two_pow]
    congr 1; omega
  · rw [if_pos (by omega), if_neg h]
    cases b
    · simp
    · simp only [if_true]
      rw [Nat.testBit_two_pow_sub_one]
      simp; omega
end Go.Proofs.YtkjjdgnkelchfaaGreat
