import Derived.Test.YtkjjdgnkelchfaaGreatPTU1
set_option linter.unusedSimpArgs false
set_option linter.unusedVariables false
set_option maxRecDepth 100000
set_option maxHeartbeats 16000000
namespace Go.Proofs.YtkjjdgnkelchfaaGreat
open Go
theorem xfa : ∀ (a r : List Char), (∀ c ∈ a, c ≠ Char.ofNat 32) → wordsSigns (a ++ Char.ofNat 32 :: r) = a :: wordsSigns r
  | [], r, _ => by rw [List.nil_append]; rfl
  | c :: a, r, h => by
    have ih := xfa a r (fun x hx => h x (by simp [hx])); have hc := h c (by simp); rw [List.cons_append]
    conv => lhs; unfold wordsSigns
    split
    · rename_i e; injection e
    · rename_i e
      injection e with e _; exact absurd e hc
    · rename_i e
      injection e with e1 e2; subst e1; subst e2; rw [ih]
def signs (l : List Nat) : List Char := l.map Char.ofNat
def head1 : List Char := signs [104, 97, 114, 110, 101, 115, 115]
def head2 : List Char := signs [56, 57, 57, 56, 98, 50, 55, 99, 50, 97, 101, 101, 54, 51, 48, 101, 54, 51, 98, 54, 54, 53, 49, 52, 54, 100, 51, 51, 55, 100, 55, 57, 53, 52, 97, 51, 48, 101, 97, 49, 99, 100, 100,
    48, 54, 49, 101, 51, 56, 54, 97, 53, 98, 56, 102, 48, 102, 48, 101, 101, 53, 99, 55, 53]
def xin : List Char := signs [99, 117, 116]
def xjg : List Char := signs [97, 116, 32, 114, 111, 111, 116, 99, 101, 108, 108, 97, 114, 47, 114, 111, 111, 116, 99, 101, 108, 108, 97, 114, 116, 111, 112, 46, 84, 111, 112, 84, 114, 117, 116, 104, 115, 32,
    114, 111, 111, 116, 99, 101, 108, 108, 97, 114, 47, 114, 111, 111, 116, 99, 101, 108, 108, 97, 114, 116, 111, 112, 46, 84, 111, 112, 67, 114, 97, 115, 104, 32, 114, 111, 111, 116,
    99, 101, 108, 108, 97, 114, 47, 114, 111, 111, 116, 99, 101, 108, 108, 97, 114, 116, 111, 112, 46, 84, 111, 112, 78, 101, 120, 116]
theorem xsr : Tryz.prog.initOrder.toList = head1 ++ Char.ofNat 32 :: (head2 ++ Char.ofNat 32 :: (xin ++ Char.ofNat 32 :: xjg)) := by
  have h : Tryz.prog.initOrder = String.ofList (head1 ++ Char.ofNat 32 :: (head2 ++ Char.ofNat 32 :: (xin ++ Char.ofNat 32 :: xjg))) := by kernel_rfl
  rw [h, String.toList_ofList]
theorem xjh {l : List Char} (h : (l.all fun c => !(c == Char.ofNat 32)) = true) : ∀ c ∈ l, c ≠ Char.ofNat 32 := fun c hc e => by
  have := List.all_eq_true.1 h c hc; simp [e] at this
theorem xss (a b c : List Char) (r : List (List Char)) (h : ((a == "harness".toList || a == "ownmain".toList) && isSumSigns b) = true) : behindMainWord (a :: b :: c :: r) = c :: r := by
  unfold behindMainWord; exact if_pos h
theorem xgp : behindMainWord (wordsSigns Tryz.prog.initOrder.toList) = xin :: wordsSigns xjg := by
  rw [xsr, xfa _ _ (xjh (by kernel_rfl)), xfa _ _ (xjh (by kernel_rfl)), xfa _ _ (xjh (by kernel_rfl))]; exact xss _ _ _ _ (by kernel_rfl)
theorem enter_of (x : List (List Char)) (P : Program) (h : behindMainWord (wordsSigns P.initOrder.toList) = xin :: x) (hl : P.laysLater = false) (hb : P.bearsReflect = false) (hd : P.doorFits [] = true) : P.mayEnter = true := by
  unfold Program.mayEnter; rw [h]; have hs : stripLifts liftWords (xin :: x) = ([], xin :: x) := by kernel_rfl
  simp [hs, hl, hb, hd]; exact Or.inr (by kernel_rfl)
theorem lifts_of (x : List (List Char)) (P : Program) (h : behindMainWord (wordsSigns P.initOrder.toList) = xin :: x) : P.liftsFinal = false := by
  unfold Program.liftsFinal Program.headLifts; simp only [h]
  kernel_rfl
theorem make_of (x : List (List Char)) (P : Program) (h : behindMainWord (wordsSigns P.initOrder.toList) = xin :: x) : P.make = some .cut := by
  unfold Program.make; rw [h]; kernel_rfl
theorem fa_laid : laidOutB Tryz.prog = true := by kernel_rfl
theorem fa_maps : mapsRowed Tryz.prog = true := by kernel_rfl
theorem fa_stops : (Tryz.prog.stops == []) = true := by kernel_rfl
theorem fa_knobs : (Tryz.prog.stopKnobs == []) = true := by kernel_rfl
theorem fa_keys : Tryz.prog.plainKeys = false := by kernel_rfl
theorem fa_heard : Tryz.prog.stopsHeard = true := by kernel_rfl
theorem fa_later : Tryz.prog.laysLater = false := by kernel_rfl
theorem xp8 : Tryz.prog.bearsReflect = false := by kernel_rfl
theorem fa_door : Tryz.prog.doorFits [] = true := by kernel_rfl
theorem fa_enter : Tryz.prog.mayEnter = true := enter_of _ _ xgp fa_later xp8 fa_door
theorem fa_lifts : Tryz.prog.liftsFinal = false := lifts_of _ _ xgp
theorem fa_make : Tryz.prog.make = some .cut := make_of _ _ xgp
end Go.Proofs.YtkjjdgnkelchfaaGreat
namespace Go.Proofs.YtkjjdgnkelchfaaGreat
open Go Go.RowKit
def bv (x : UInt8) : Value := .int .u8 (x.toNat : Int)
def bvs (l : List UInt8) : List Value := l.map bv
theorem xae (l : List UInt8) : (bvs l).length = l.length := by simp [bvs]
theorem xbz (l m : List UInt8) : bvs (l ++ m) = bvs l ++ bvs m := by simp [bvs]
theorem xcz (l : List UInt8) (i : Nat) : (bvs l)[i]? = l[i]?.map bv := by simp [bvs]
theorem xbk (l : List UInt8) : ∀ u ∈ bvs l, u.oneCell' = true := by
  intro u hu; obtain ⟨x, _, rfl⟩ := List.mem_map.1 hu; rfl
def Blk (w : World) (g : Nat) (t : TypeId) (cs : List Value) : Prop := w.heap[g]? = some (.cells cs.toArray t (0, 0))
section
variable {w w' : World} {g : Nat} {t : TypeId} {cs : List Value}
theorem Blk.lt (h : Blk w g t cs) : g < w.heap.size := by
  rcases Nat.lt_or_ge g w.heap.size with hlt | hge
  · exact hlt
  · unfold Blk at h; rw [Array.getElem?_eq_none hge] at h; cases h
theorem Blk.cell (h : Blk w g t cs) (i : Nat) : w.cell? ⟨g, i, none⟩ = cs[i]? := by
  rw [cell_of_row w g i cs.toArray t (0, 0) h]; simp
theorem Blk.free (h : Blk w g t cs) (i : Nat) : w.frozen? ⟨g, i, none⟩ = false := frozen_of_row w g i cs.toArray t h
theorem Blk.new (w : World) (t : TypeId) (cs : List Value) : Blk (w.alloc (.cells cs.toArray t)) w.heap.size t cs := heap_alloc_new w _
theorem Blk.drew (h : Blk w g t cs) : Blk w.drew g t cs := h
theorem Blk.alloc (h : Blk w g t cs) (o : Obj) : Blk (w.alloc o) g t cs := (Below.heap_alloc w o g h.lt).trans h
theorem Blk.set_ (h : Blk w g t cs) (i : Nat) (u : Value) : Blk (w.setCell ⟨g, i, none⟩ u) g t (cs.set i u) := by
  have := heap_setCell_same w g i cs.toArray t u h; unfold Blk; rw [this]; simp
theorem Blk.far (h : Blk w g t cs) {p : Addr} (hp : g ≠ p.block) (u : Value) : Blk (w.setCell p u) g t cs := (Below.heap_setCell w p u g hp).trans h
theorem Blk.below {B : Nat} (h : Blk w g t cs) (hb : Below B w w') (hg : g < B) : Blk w' g t cs := (hb.block g hg).trans h
theorem Blk.grown {row : Option Nat} (h : Blk w g t cs) (hb : w.grownBy w' row) (hg : some g ≠ row) : Blk w' g t cs := (hb.block g h.lt hg).trans h
theorem Blk.row (h : Blk w g t cs) (ds : List Value) : Blk (w.setRow g ds.toArray) g t ds := setRow_heap w g cs.toArray ds.toArray t (0, 0) h
end
def Rd (w : World) (A : Option Addr) (cs : List Value) : Prop :=
  0 < cs.length → ∃ ad, A = some ad ∧ ∀ j u, cs[j]? = some u → w.cell? (ad.add j) = some u
section
variable {w w' : World} {A : Option Addr} {cs : List Value}
theorem Rd.nil (w : World) (A : Option Addr) : Rd w A [] := fun h => absurd h (by simp)
theorem Rd.at_ (h : Rd w A cs) {k : Nat} (hk : k < cs.length) : ∃ ad, A = some ad ∧ w.cell? (ad.add k) = some cs[k] := by
  obtain ⟨ad, e, hc⟩ := h (by omega); exact ⟨ad, e, hc k _ (List.getElem?_eq_getElem hk)⟩
theorem Rd.keep (h : Rd w A cs) (hk : ∀ (p : Addr) u, w.cell? p = some u → w'.cell? p = some u) : Rd w' A cs := fun hn => by
  obtain ⟨ad, e, hc⟩ := h hn; exact ⟨ad, e, fun j u hu => hk _ _ (hc j u hu)⟩
theorem Rd.below (h : Rd w A cs) (hb : Below w.heap.size w w') : Rd w' A cs :=
  h.keep fun p _ hp => (hb.cell (World.block_lt_of_cell? w p hp)).trans hp
theorem Rd.drew (h : Rd w A cs) : Rd w.drew A cs := h
theorem Rd.alloc (h : Rd w A cs) (o : Obj) : Rd (w.alloc o) A cs := h.keep fun p _ hp => (World.cell?_alloc_lt w o p (World.block_lt_of_cell? w p hp)).trans hp
theorem Rd.of_blk {g : Nat} {t : TypeId} {ds : List Value} (h : Blk w g t ds) (o n : Nat) (_hn : o + n ≤ ds.length) : Rd w (some ⟨g, o, none⟩) ((ds.drop o).take n) := fun _ => by
  refine ⟨_, rfl, fun j u hu => ?_⟩
  have hj : j < n := by
    have := (List.getElem?_eq_some_iff.1 hu).1; simp at this; omega
  have : (⟨g, o, none⟩ : Addr).add j = ⟨g, o + j, none⟩ := by
    unfold Addr.add; split
    · subst_vars; rfl
    · rfl
  rw [this, h.cell]; rw [List.getElem?_take_of_lt hj, List.getElem?_drop] at hu; exact hu
theorem Rd.of_blk0 {g : Nat} {t : TypeId} {ds es : List Value} (h : Blk w g t (ds ++ es)) : Rd w (some ⟨g, 0, none⟩) ds := by
  have := Rd.of_blk h 0 ds.length (by simp); simpa using this
theorem Rd.cut (h : Rd w A cs) (k m : Nat) : Rd w (A.map (·.add k)) ((cs.drop k).take m) := fun hn => by
  obtain ⟨ad, rfl, hc⟩ := h (by simp at hn; omega); refine ⟨ad.add k, rfl, fun j u hu => ?_⟩
  have e : (ad.add k).add j = ad.add (k + j) := by
    unfold Addr.add; by_cases hi : k = 0 <;> by_cases hj : j = 0 <;> simp [hi, hj, Nat.add_assoc]
  rw [e]; apply hc
  have hj : j < m := by
    have := (List.getElem?_eq_some_iff.1 hu).1; simp at this; omega
  rw [List.getElem?_take_of_lt hj, List.getElem?_drop] at hu; exact hu
theorem Rd.take (h : Rd w A cs) (m : Nat) : Rd w A (cs.take m) := fun hn => by
  obtain ⟨ad, rfl, hc⟩ := h (by simp at hn; omega); refine ⟨ad, rfl, fun j u hu => hc j u ?_⟩
  have hj : j < m := by
    have := (List.getElem?_eq_some_iff.1 hu).1; simp at this; omega
  rwa [List.getElem?_take_of_lt hj] at hu
end
structure Fr (S : Nat → Prop) (w w' : World) : Prop where
  os : w'.os = w.os
  tape : w'.tape = w.tape
  output : w'.output = w.output
  size : w.heap.size ≤ w'.heap.size
  block : ∀ k, k < w.heap.size → ¬ S k → w'.heap[k]? = w.heap[k]?
section
variable {S : Nat → Prop} {a b c w w' : World}
theorem Fr.refl (S : Nat → Prop) (w : World) : Fr S w w := ⟨rfl, rfl, rfl, Nat.le_refl _, fun _ _ _ => rfl⟩
theorem Fr.trans (h : Fr S a b) (k : Fr S b c) : Fr S a c :=
  ⟨k.os.trans h.os, k.tape.trans h.tape, k.output.trans h.output, Nat.le_trans h.size k.size, fun i hi hs => (k.block i (Nat.lt_of_lt_of_le hi h.size) hs).trans (h.block i hi hs)⟩
theorem Fr.below (h : Fr S a b) (k : Below b.heap.size b c) : Fr S a c :=
  ⟨k.os.trans h.os, k.tape.trans h.tape, k.output.trans h.output, Nat.le_trans h.size k.size, fun i hi hs => (k.block i (Nat.lt_of_lt_of_le hi h.size)).trans (h.block i hi hs)⟩
theorem Fr.grown {row : Option Nat} (h : Fr S a b) (k : b.grownBy c row) (hr : ∀ g, row = some g → S g ∨ a.heap.size ≤ g) : Fr S a c :=
  ⟨k.os.trans h.os, k.tape.trans h.tape, k.output.trans h.output, Nat.le_trans h.size k.size, fun i hi hs => (k.block i (Nat.lt_of_lt_of_le hi h.size) (fun e => by
    rcases hr i e.symm with h1 | h1
    · exact hs h1
    · omega)).trans (h.block i hi hs)⟩
theorem Fr.drew (h : Fr S a b) : Fr S a b.drew := ⟨h.os, h.tape, h.output, h.size, h.block⟩
theorem Fr.alloc (h : Fr S a b) (o : Obj) : Fr S a (b.alloc o) := h.below ((Below.refl _ _).alloc (Nat.le_refl _) _)
theorem Fr.setCell (h : Fr S a b) {p : Addr} (hp : S p.block ∨ a.heap.size ≤ p.block) (u : Value) : Fr S a (b.setCell p u) :=
  ⟨h.os, h.tape, h.output, by simpa [World.setCell] using h.size, fun i hi hs => (Below.heap_setCell b p u i (by
    rintro rfl; rcases hp with hp | hp
    · exact hs hp
    · omega)).trans (h.block i hi hs)⟩
theorem Fr.of_below (h : Below a.heap.size a b) : Fr S a b := ⟨h.os, h.tape, h.output, h.size, fun i hi _ => h.block i hi⟩
theorem Rd.fr {A : Option Addr} {cs : List Value} (h : Rd a A cs) (hf : Fr S a b) (hA : ∀ ad, A = some ad → ¬ S ad.block) : Rd b A cs := fun hn => by
  obtain ⟨ad, e, hc⟩ := h hn; refine ⟨ad, e, fun j u hu => ?_⟩; have h1 := hc j u hu; have hb : (ad.add j).block = ad.block := by unfold Addr.add; split <;> rfl
  have hlt := World.block_lt_of_cell? a _ h1; rw [World.cell?_of_block (w := a) (hf.block _ hlt (by rw [hb]; exact hA ad e)), h1]
theorem Blk.fr {g : Nat} {t : TypeId} {cs : List Value} (h : Blk a g t cs) (hf : Fr S a b) (hg : ¬ S g) : Blk b g t cs := (hf.block g h.lt hg).trans h
end
section
variable {P : Program} {ops : Array Oper} {rest : List Oper} {a : Act} {w : World} {Q : Exit → Act → World → Prop}
theorem xax (d : Tmp) {op : Op} {ty : TypeId} {pos : String} {after : Array Edge} {g : Option (Nat × Bool)}
    (h : wpList P ops Q (⟨some d, op, ty, pos, after, g⟩ :: rest) a w) : wpList P ops Q (⟨some d, op, ty, pos, after, g⟩ :: rest) a w := h
theorem xdp (op : Op) {d : Option Tmp} {ty : TypeId} {pos : String} {after : Array Edge} {g : Option (Nat × Bool)}
    (h : wpList P ops Q (⟨d, op, ty, pos, after, g⟩ :: rest) a w) : wpList P ops Q (⟨d, op, ty, pos, after, g⟩ :: rest) a w := h
end
structure BT (P : Program) (T E S : TypeId) : Prop where
  t : P.underlying T = some (.slice E)
  e : P.underlying E = some (.int .u8)
  s : P.underlying S = some .string
  i : (P.info? E).map (fun i => (i.zero, i.size, i.bytes)) = some (some (.int .u8 0), 1, 1)
section
variable {P : Program} {T E S : TypeId} {w : World} {ops : Array Oper} {rest : List Oper} {o : Oper} {a : Act} {Q : Exit → Act → World → Prop}
theorem xlj (n : Nat) : madeCells (Value.int .u8 0).cells n = (bvs (List.replicate n 0)).toArray := by
  apply Array.ext'; apply List.ext_getElem?; intro j; simp [madeCells, bvs, bv, Value.cells, List.getElem?_replicate]; by_cases h : j < n
  · simp [h, Nat.mod_one]
  · simp [h]
theorem xec (B : BT P T E S) (kl kc : IntKind) (n c : Nat) (hnc : n ≤ c) (hc : c ≤ 281474976710656) :
    (Instr.makeSlice T (.int kl n) (.int kc c)).run P w = .ok (.slice (some ⟨w.heap.size, 0, none⟩) n c) (w.alloc (.cells (bvs (List.replicate c 0)).toArray E)) := by
  obtain ⟨i, hi, hz, hs, hb⟩ := info_parts B.i; have hr := run_make (P := P) w T E i _ B.t hi hz kl kc n c (by omega) (by omega) (by rw [hb]; omega) (by omega); rw [hs, xlj] at hr; simpa using hr
theorem xg3 (B : BT P T E S) (hgd : o.guard = none) (l c : Operand) (ho : o.op = Op.makeSlice T l c) (kl kc : IntKind) (n m : Nat) (hl : a.eval l = .int kl n) (hc : a.eval c = .int kc m)
    (hnc : n ≤ m) (hm : m ≤ 281474976710656)
    (h : ∀ w', Blk w' w.heap.size E (bvs (List.replicate m 0)) → Below w.heap.size w w' → w'.heap.size = w.heap.size + 1 → wpList P ops Q rest (a.put o.dst (.slice (some ⟨w.heap.size, 0, none⟩) n m)) w') : wpList P ops Q (o :: rest) a w := by
  refine wpList_plain hgd fun K hK => ?_
  have hr := xec (w := w) B kl kc n m hnc hm; unfold Oper.wp; simp [execOp, ho, hl, hc, hr, Result.andThen]; exact hK _ _ (h _ (Blk.new _ _ _) ((Below.refl _ _).alloc (Nat.le_refl _) _) (by simp))
theorem xc0 (w : World) (g : Nat) (cs : Array Value) : w.grownBy (w.setRow g cs) (some g) :=
  ⟨rfl, rfl, rfl, by simp, fun k _ hne => setRow_other w g k cs (fun e => hne (by rw [e]))⟩
def OwnB (w : World) (base : Nat) (E : TypeId) (v : Value) (l : List UInt8) : Prop :=
  (v = .slice none 0 0 ∧ l = []) ∨ ∃ (g : Nat) (sp : List UInt8), v = .slice (some ⟨g, 0, none⟩) l.length (l.length + sp.length) ∧ base ≤ g ∧ l.length + sp.length ≤ maxLen ∧ Blk w g E (bvs (l ++ sp))
theorem OwnB.nil (w : World) (base : Nat) (E : TypeId) : OwnB w base E (.slice none 0 0) [] := .inl ⟨rfl, rfl⟩
theorem OwnB.rd {base : Nat} {v : Value} {l : List UInt8} (h : OwnB w base E v l) : ∃ A c, v = .slice A l.length c ∧ l.length ≤ c ∧ c ≤ maxLen ∧ Rd w A (bvs l) := by
  rcases h with ⟨rfl, rfl⟩ | ⟨g, sp, rfl, _, hm, hb⟩
  · exact ⟨none, 0, rfl, by simp, by simp, Rd.nil _ _⟩
  · rw [xbz] at hb
    exact ⟨_, _, rfl, by omega, hm, Rd.of_blk0 hb⟩
theorem OwnB.grown {w' : World} {base : Nat} {row : Option Nat} {v : Value} {l : List UInt8} (h : OwnB w base E v l) (hb : w.grownBy w' row) (hr : ∀ k, row = some k → v.ownBlock ≠ some k) : OwnB w' base E v l := by
  rcases h with h | ⟨g, sp, rfl, hg, hm, hk⟩
  · exact .inl h
  · exact .inr ⟨g, sp, rfl, hg, hm, hk.grown hb (fun e => hr g e.symm rfl)⟩
theorem OwnB.mono {base base' : Nat} {v : Value} {l : List UInt8} (h : OwnB w base E v l) (hb : base' ≤ base) : OwnB w base' E v l := by
  rcases h with h | ⟨g, sp, e, hg, hm, hk⟩
  · exact .inl h
  · exact .inr ⟨g, sp, e, by omega, hm, hk⟩
theorem OwnB.lt {base : Nat} {v : Value} {l : List UInt8} (h : OwnB w base E v l) : ∀ k, v.ownBlock = some k → base ≤ k ∧ k < w.heap.size := by
  rcases h with ⟨rfl, rfl⟩ | ⟨g, sp, rfl, hg, hm, hk⟩
  · intro k hk; simp [Value.ownBlock] at hk
  · intro k he
    simp [Value.ownBlock] at he; subst he; exact ⟨hg, hk.lt⟩
theorem xst (n : Nat) : (Builtin.zeroCells (Value.int .u8 0).cells n) = (bvs (List.replicate n 0)).toArray := by
  have : Builtin.zeroCells (Value.int .u8 0).cells n = madeCells (Value.int .u8 0).cells n := by
    simp [Builtin.zeroCells, madeCells, Value.cells]
  rw [this, xlj]
theorem xhx (B : BT P T E S) (ty : TypeId) (base : Nat) (v : Value) (l : List UInt8) (hown : OwnB w base E v l) (A : Option Addr) (m c : Nat) (x : List UInt8) (hx : x.length = m) (hr : Rd w A (bvs x))
    (hbytes : l.length + m ≤ 140737488355328) (hbase : base ≤ w.heap.size) :
    ∃ v' w', (Builtin.append_ #[T, T] ty #[v, .slice A m c]).run P w = .ok v' w' ∧ OwnB w' base E v' (l ++ x) ∧ w.grownBy w' v.ownBlock ∧ (v'.ownBlock = v.ownBlock ∨ v'.ownBlock = some w.heap.size) := by
  obtain ⟨i, hi, hz, hsz, hb⟩ := info_parts B.i; subst hx; have hml : (maxLen : Nat) = 9223372036854775807 := rfl; by_cases h0 : x = []
  · subst h0
    refine ⟨v, w, ?_, by simpa using hown, World.grownBy.refl _ _, .inl rfl⟩; have hst : ∀ ad : Addr, (storeCells ad []).run P w = .ok () w := fun ad => rfl
    rcases hown with ⟨rfl, rfl⟩ | ⟨g, sp, rfl, hg, hm, hk⟩
    · cases A <;> simp [Builtin.append_, run_underlying B.t, sizeOf, typeInfo, hi, Builtin.lenOf, Builtin.firstCells, loadCells, loadCellsFrom]
    · cases A <;> simp [Builtin.append_, run_underlying B.t, sizeOf, typeInfo, hi, Builtin.lenOf, Builtin.firstCells, loadCells, loadCellsFrom, storeCells]
  · have hpos : 0 < x.length := List.length_pos_iff.2 h0
    obtain ⟨ad, rfl, hc⟩ := hr (by rw [xae]; exact hpos); have hgc : ∀ old, grownCap w (l.length + x.length) old E ≤ maxLen := fun old => grownCap_le_maxLen w _ old E (by omega)
    have hge : ∀ old, l.length + x.length ≤ grownCap w (l.length + x.length) old E := fun old => grownCap_ge w _ old E
    have fin : ∀ (old : Nat) (row : Option Nat),
        OwnB (w.drew.alloc (.cells ((bvs l).toArray ++ (bvs x).toArray ++ Builtin.zeroCells (Value.int .u8 0).cells (grownCap w (l.length + x.length) old E - (l.length + x.length))) E)) base E
          (.slice (some ⟨w.heap.size, 0, none⟩) (l.length + x.length) (grownCap w (l.length + x.length) old E)) (l ++ x) ∧
        w.grownBy (w.drew.alloc (.cells ((bvs l).toArray ++ (bvs x).toArray ++ Builtin.zeroCells (Value.int .u8 0).cells (grownCap w (l.length + x.length) old E - (l.length + x.length))) E)) row := by
      intro old row; refine ⟨.inr ⟨w.heap.size, List.replicate (grownCap w (l.length + x.length) old E - (l.length + x.length)) 0, ?_, hbase, ?_, ?_⟩, ⟨rfl, rfl, rfl, by simp, fun k hk _ => Below.heap_alloc w.drew _ k (by simpa using hk)⟩⟩
      · have := hge old
        simp only [qp, List.length_replicate]; congr 1; omega
      · have := hge old; have := hgc old
        simp only [qp, List.length_replicate]; omega
      · have := Blk.new w.drew E (bvs l ++ bvs x ++ bvs (List.replicate (grownCap w (l.length + x.length) old E - (l.length + x.length)) 0))
        rw [xst, List.append_toArray, List.append_toArray]; simp only [xbz]; exact this
    rcases hown with ⟨rfl, rfl⟩ | ⟨g, sp, rfl, hg, hm, hk⟩
    · have hr := run_append_nil (P := P) w T ty E i _ B.t hi hz ad x.length c (bvs x) (by simp [bvs, hsz]) hc hpos (by omega) (by rw [hb]; simp only [qs, Nat.zero_add] at hbytes; omega)
      have hf := fin 0 (Value.ownBlock (.slice none 0 0)); simp only [qs, Nat.zero_add, qn, bvs, ql, Array.empty_append] at hf hr ⊢; exact ⟨_, _, hr, hf.1, hf.2, .inr rfl⟩
    · by_cases hroom : x.length ≤ sp.length
      · have hrun := run_append_room (P := P) w T ty E i B.t hi g l.length (l.length + sp.length) (bvs (l ++ sp)).toArray hk ad x.length c (bvs x) (by simp [bvs, hsz]) hc (xbk _) (by omega) (by simp [bvs, hsz]; omega)
        refine ⟨_, _, hrun, .inr ⟨g, sp.drop x.length, ?_, hg, ?_, ?_⟩, xc0 w g _, .inl rfl⟩
        · simp only [qp, List.length_drop]
          congr 1; omega
        · simp only [qp, List.length_drop]
          omega
        · have := hk.row (bvs (l ++ x ++ sp.drop x.length))
          have e : ((bvs (l ++ sp)).toArray.toList.take (l.length * i.size) ++ bvs x ++ (bvs (l ++ sp)).toArray.toList.drop (l.length * i.size + (bvs x).length)) = bvs (l ++ x ++ sp.drop x.length) := by
            simp only [bvs, hsz, List.map_append, Nat.mul_one, List.length_map]; congr 1
            · congr 1
              exact List.take_left' (by simp)
            · rw [List.drop_append, List.map_drop]; simp
          rw [e]; exact this
      · have hl : Rd w (some ⟨g, 0, none⟩) (bvs l) := by rw [xbz] at hk; exact Rd.of_blk0 hk
        have holds : ∀ j u, (bvs l)[j]? = some u → w.cell? ((⟨g, 0, none⟩ : Addr).add j) = some u := by
          intro j u hu; obtain ⟨ad', e, hc'⟩ := hl (by have := (List.getElem?_eq_some_iff.1 hu).1; omega); cases e; exact hc' j u hu
        have hr := run_append_grow (P := P) w T ty E i _ B.t hi hz ⟨g, 0, none⟩ l.length (l.length + sp.length) (bvs l) (by simp [bvs, hsz]) holds ad x.length c (bvs x) (by simp [bvs, hsz]) hc (by omega) (by omega) (growslice_fits (by omega) (by rw [hb]; omega)); have hf := fin (l.length + sp.length) (Value.ownBlock (.slice (some ⟨g, 0, none⟩) l.length (l.length + sp.length))); exact ⟨_, _, hr, hf.1, hf.2, .inr rfl⟩
theorem xb8 (B : BT P T E S) (hgd : o.guard = none) (s x : Operand) (ho : o.op = .call { callee := .builtin .append, args := #[s, x], argTypes := #[T, T] })
    (base : Nat) (v : Value) (l : List UInt8) (hs : a.eval s = v) (hown : OwnB w base E v l) (A : Option Addr) (m c : Nat) (y : List UInt8) (hx : a.eval x = .slice A m c) (hy : y.length = m) (hr : Rd w A (bvs y))
    (hbytes : l.length + m ≤ 140737488355328) (hbase : base ≤ w.heap.size)
    (h : ∀ v' w', OwnB w' base E v' (l ++ y) → w.grownBy w' v.ownBlock → (v'.ownBlock = v.ownBlock ∨ v'.ownBlock = some w.heap.size) → wpList P ops Q rest (a.put o.dst v') w') : wpList P ops Q (o :: rest) a w := by
  obtain ⟨v', w', hrun, h1, h2, h3⟩ := xhx B o.type base v l hown A m c y hy hr hbytes hbase; refine wpList_plain hgd fun K hK => ?_
  unfold Oper.wp execOp; refine X1 ?_; exact hK _ _ (h v' w' h1 h2 h3)
theorem xhy (B : BT P T E S) (A : Option Addr) (n c : Nat) (l : List UInt8) (hr : Rd w A (bvs l)) (hl : l.length = n) : (convert T S (.slice A n c)).run P w = .ok (.string ⟨l.toArray⟩) w := by
  rw [run_convert_bytes_string w T S E A n c B.t B.e B.s]; subst hl; by_cases h0 : l = []
  · subst h0
    cases A with
    | none => simp [Conv.bytesToString]; rfl
    | some ad => simp [Conv.bytesToString, loadCells, loadCellsFrom]; rfl
  · obtain ⟨ad, rfl, hc⟩ := hr (by rw [xae]; exact List.length_pos_iff.2 h0)
    have hload := run_loadCells_list (P := P) w ad (bvs l) hc; rw [xae] at hload; have e : bvs l = (l.map fun x : UInt8 => (x.toNat : Int)).map (Value.int .u8) := by simp [bvs, bv]
    rw [e] at hload; rw [run_bytesToString w ad l.length c _ hload]; congr 2
    have : ∀ (m : List UInt8) (s : ByteArray), (m.map fun x : UInt8 => (x.toNat : Int)).foldl (fun r n => r.push (UInt8.ofNat n.toNat)) s = ⟨(s.data.toList ++ m).toArray⟩ := by
      intro m
      induction m with
      | nil => intro s; cases s; simp
      | cons x m ih =>
        intro s; rw [List.map_cons, List.foldl_cons, ih]; cases s; simp [ByteArray.push]
    rw [this]; simp [ByteArray.empty, ByteArray.emptyWithCapacity]; rfl
theorem xen (B : BT P T E S) (x : Operand) (ho : o.op = .convert T S x) (A : Option Addr) (n c : Nat) (hx : a.eval x = .slice A n c) (l : List UInt8) (hr : Rd w A (bvs l)) (hl : l.length = n) :
    (execOp a.eval o).run P w = .ok (.value (.string ⟨l.toArray⟩)) w := by
  have h := xhy (w := w) B A n c l hr hl; unfold execOp; simp only [ho, hx, Sem.run_bind, h, Result.andThen_ok, Sem.run_pure]
theorem xb9 (B : BT P T E S) (hgd : o.guard = none) (x : Operand) (ho : o.op = .convert T S x) (A : Option Addr) (n c : Nat) (hx : a.eval x = .slice A n c) (l : List UInt8) (hr : Rd w A (bvs l)) (hl : l.length = n)
    (h : wpList P ops Q rest (a.put o.dst (.string ⟨l.toArray⟩)) w) : wpList P ops Q (o :: rest) a w := by
  refine wpList_plain hgd fun K hK => ?_
  unfold Oper.wp; rw [xen B x ho A n c hx l hr hl]; exact hK _ _ h
end
def cutA (A : Option Addr) (c lo z : Nat) : Option Addr := if c = lo then A else A.map (·.add (lo * z))
structure ST (P : Program) (T E z : Nat) : Prop where
  t : P.underlying T = some (.slice E)
  i : (P.info? E).map (fun i => i.size) = some z
theorem BT.st {P : Program} {T E S : TypeId} (B : BT P T E S) : ST P T E 1 := ⟨B.t, by
  obtain ⟨i, hi, _, hs, _⟩ := info_parts B.i
  rw [hi]; simp [hs]⟩
section
variable {P : Program} {T E z : Nat} {w : World} {ops : Array Oper} {rest : List Oper} {o : Oper} {a : Act} {Q : Exit → Act → World → Prop}
theorem ST.size (B : ST P T E z) : (sizeOf E).run P w = .ok z w := by
  have h := B.i
  cases hq : P.info? E with
  | none => simp [hq] at h
  | some i =>
    simp [hq] at h; simp [sizeOf, typeInfo, hq, h]
theorem xmb (B : ST P T E z) (A : Option Addr) (n c h : Nat) (k : IntKind) (hh : h ≤ c) : (Instr.slice T (.slice A n c) none (some (.int k (h : Int))) none).run P w = .ok (.slice A h c) w := by
  have e : P.elem T = E := by simp [Program.elem, B.t]
  rw [run_slice_h w T A n c (by rw [e]; exact B.t) k h (by omega) (by omega), e, B.size]; simp only [Result.andThen, sliced]
  have : (if c = 0 then A else A.map (·.add (0 * z))) = A := by
    split
    · rfl
    · cases A <;> simp [Addr.add]
  simp only [Int.toNat_natCast, this, Nat.sub_zero]
theorem xji (B : ST P T E z) (A : Option Addr) (n c l : Nat) (k : IntKind) (hl : l ≤ n) : (Instr.slice T (.slice A n c) (some (.int k (l : Int))) none none).run P w = .ok (.slice (cutA A c l z) (n - l) (c - l)) w := by
  have e : P.elem T = E := by simp [Program.elem, B.t]
  rw [run_slice_l w T A n c (by rw [e]; exact B.t) k l (by omega) (by omega), e, B.size]; simp [Result.andThen, sliced, cutA]
theorem xdv (B : ST P T E z) (x hi : Operand) (ho : o.op = .slice T x none (some hi) none) (A : Option Addr) (n c h : Nat) (k : IntKind) (hx : a.eval x = .slice A n c) (hh : a.eval hi = .int k (h : Int)) (hb : h ≤ c) :
    (execOp a.eval o).run P w = .ok (.value (.slice A h c)) w := by
  have hr := xmb (w := w) B A n c h k hb; have e : P.elem T = E := by simp [Program.elem, B.t]
  unfold execOp; simp only [ho, hx, Option.map_some, hh, Option.map_none, Sem.run_bind, run_sliceAt_slice w T _ _ _ _ (by rw [e]; exact B.t), hr, Result.andThen_ok, Sem.run_pure]
theorem xb3 (B : ST P T E z) (x lo : Operand) (ho : o.op = .slice T x (some lo) none none) (A : Option Addr) (n c l : Nat) (k : IntKind) (hx : a.eval x = .slice A n c) (hh : a.eval lo = .int k (l : Int)) (hb : l ≤ n) :
    (execOp a.eval o).run P w = .ok (.value (.slice (cutA A c l z) (n - l) (c - l))) w := by
  have hr := xji (w := w) B A n c l k hb; have e : P.elem T = E := by simp [Program.elem, B.t]
  unfold execOp; simp only [ho, hx, Option.map_some, hh, Option.map_none, Sem.run_bind, run_sliceAt_slice w T _ _ _ _ (by rw [e]; exact B.t), hr, Result.andThen_ok, Sem.run_pure]
theorem xaa (hgd : o.guard = none) (v : Value) (hr : (execOp a.eval o).run P w = .ok (.value v) w) (h : wpList P ops Q rest (a.put o.dst v) w) : wpList P ops Q (o :: rest) a w := by
  refine wpList_plain hgd fun K hK => ?_
  unfold Oper.wp; rw [hr]; exact hK _ _ h
theorem Rd.cutA {A : Option Addr} {cs : List Value} {c lo z : Nat} (h : Rd w A cs) (hc : cs.length ≤ c * z) (m : Nat) : Rd w (cutA A c lo z) ((cs.drop (lo * z)).take m) := by
  unfold YtkjjdgnkelchfaaGreat.cutA
  split
  · rename_i e
    subst e; intro hn; simp at hn; omega
  · exact h.cut _ _
structure ET (P : Program) (E : TypeId) (zv : Value) (z b : Nat) : Prop where
  i : (P.info? E).map (fun i => (i.zero, i.size, i.bytes)) = some (some zv, z, b)
  c : zv.cells.size = z
  p : 0 < z
theorem xjj {w : World} {g : Nat} {e : TypeId} {xs : List Value} (base z n : Nat) (h : Blk w g e xs) (hb : base ≤ g) (hn : xs.length = n * z) (hm : n ≤ maxLen) :
    w.ownsRow base e z (.slice (some ⟨g, 0, none⟩) n n) n xs :=
  ⟨hn, .inr ⟨g, n, xs.toArray, rfl, hb, h, Nat.le_refl _, hm, by simpa using hn, by rw [← hn]; simp⟩⟩
theorem xgq {w : World} {base e z n : Nat} {v : Value} {xs : List Value} (h : w.ownsRow base e z v n xs) : ∃ A c, v = .slice A n c ∧ n ≤ c ∧ c ≤ maxLen ∧ Rd w A xs := by
  obtain ⟨hl, h⟩ := h; rcases h with ⟨rfl, rfl⟩ | ⟨g, cap, cur, rfl, hg, hh, hn, hm, hs, ht⟩
  · have : xs = [] := List.eq_nil_of_length_eq_zero (by simpa using hl)
    subst this; exact ⟨none, 0, rfl, Nat.le_refl _, by simp, Rd.nil _ _⟩
  · have hb : Blk w g e cur.toList := by simpa [Blk] using hh
    refine ⟨_, cap, rfl, hn, hm, ?_⟩; rw [← ht]; have := Rd.of_blk hb 0 (n * z) (by simp; rw [hs]; exact Nat.mul_le_mul_right _ hn); simpa using this
theorem xg4 {zv : Value} {b : Nat} (ht : P.underlying T = some (.slice E)) (I : ET P E zv z b) (hgd : o.guard = none) (s x : Operand) (ho : o.op = .call { callee := .builtin .append, args := #[s, x], argTypes := #[T, T] })
    (base : Nat) (v : Value) (n : Nat) (xs : List Value) (hs : a.eval s = v) (hown : w.ownsRow base E z v n xs) (A : Option Addr) (m c : Nat) (ys : List Value) (hx : a.eval x = .slice A m c) (hy : ys.length = m * z) (hr : Rd w A ys)
    (h1 : ∀ u ∈ ys, u.oneCell' = true) (h63 : n + m ≤ maxLen) (hbytes : (n + m) * b ≤ 140737488355328) (hbase : base ≤ w.heap.size)
    (h : ∀ v' w', w'.ownsRow base E z v' (n + m) (xs ++ ys) → w.grownBy w' v.ownBlock → wpList P ops Q rest (a.put o.dst v') w') : wpList P ops Q (o :: rest) a w := by
  obtain ⟨i, hi, hz, hsz, hb⟩ := info_parts I.i; by_cases h0 : ys = []
  · subst h0
    have hm : m = 0 := by
      have h2 : m * z = 0 := hy.symm; rcases Nat.mul_eq_zero.1 h2 with h3 | h3
      · exact h3
      · have := I.p; omega
    subst hm; have hst : ∀ ad : Addr, (storeCells ad []).run P w = .ok () w := fun ad => rfl
    have hrun : (Builtin.append_ #[T, T] o.type #[v, .slice A 0 c]).run P w = .ok v w := by
      rcases hown.2 with ⟨rfl, rfl⟩ | ⟨g, cap, cur, rfl, hg, hh, hn, hm, hs, ht'⟩
      · cases A <;> simp [Builtin.append_, run_underlying ht, sizeOf, typeInfo, hi, Builtin.lenOf, Builtin.firstCells, loadCells, loadCellsFrom]
      · cases A <;> simp [Builtin.append_, run_underlying ht, sizeOf, typeInfo, hi, Builtin.lenOf, Builtin.firstCells, loadCells, loadCellsFrom, storeCells, hn]
    refine wpList_plain hgd fun K hK => ?_
    unfold Oper.wp execOp; refine X1 ?_; exact hK _ _ (h v w (by simpa using hown) (World.grownBy.refl _ _))
  · obtain ⟨ad, rfl, hc⟩ := hr (List.length_pos_iff.2 h0)
    exact wpList_append_own w hgd s x T ho base E i zv z b ht hi hz hsz hb I.c I.p v n xs hs hown ad m c ys hx hy hc h1 h63 hbytes hbase fun v' w' h2 h3 _ => h v' w' h2 h3
structure AT (P : Program) (T : TypeId) (n : Nat) : Prop where
  u : ∃ d, P.underlying T = some d ∧ (match d with | .struct _ | .array _ _ => true | _ => false) = true
  i : (P.info? T).map (·.size) = some n
theorem xa7 {n : Nat} (B : AT P T n) (x : Operand) (ho : o.op = .load T x) (g t : Nat) (cs : List Value) (hx : a.eval x = .pointer (some ⟨g, 0, none⟩)) (hb : Blk w g t cs) (hn : cs.length = n) :
    (execOp a.eval o).run P w = .ok (.value (.agg cs.toArray)) w := by
  obtain ⟨d, hu, hd⟩ := B.u; unfold execOp; simp only [ho, hx, Instr.loadAt, Instr.sureAddr, Sem.run_bind, Sem.run_pure, Result.andThen_ok, run_loadVar_row w g t T cs.toArray (0, 0) d hb hu (by clear hb; cases d <;> simp_all) (by rw [B.i]; simp [hn])]
def Sl1 (w : World) (v : Value) (l : List UInt8) : Prop := ∃ A c, v = .slice A l.length c ∧ l.length ≤ c ∧ Rd w A (bvs l)
theorem Sl1.below {w w' : World} {v : Value} {l : List UInt8} (h : Sl1 w v l) (hb : Below w.heap.size w w') : Sl1 w' v l := by
  obtain ⟨A, c, e, hc, hr⟩ := h; exact ⟨A, c, e, hc, hr.below hb⟩
theorem Sl1.one {w : World} {v : Value} {l : List UInt8} (h : Sl1 w v l) : v.oneCell' = true := by
  obtain ⟨A, c, rfl, _⟩ := h; rfl
def AllRd (w : World) (vs : List Value) (ls : List (List UInt8)) : Prop := vs.length = ls.length ∧ ∀ (i : Nat) (v : Value) (l : List UInt8), vs[i]? = some v → ls[i]? = some l → Sl1 w v l
theorem AllRd.nil (w : World) : AllRd w [] [] := ⟨rfl, fun i v l h => by simp at h⟩
theorem AllRd.cons {w : World} {v : Value} {l : List UInt8} {vs : List Value} {ls : List (List UInt8)} (h : Sl1 w v l) (hs : AllRd w vs ls) : AllRd w (v :: vs) (l :: ls) :=
  ⟨by simp [hs.1], fun i u k hu hk => by
    cases i with
    | zero => simp at hu hk; subst hu; subst hk; exact h
    | succ i => exact hs.2 i u k (by simpa using hu) (by simpa using hk)⟩
theorem AllRd.append {w : World} {vs us : List Value} {ls ks : List (List UInt8)} (h : AllRd w vs ls) (hs : AllRd w us ks) : AllRd w (vs ++ us) (ls ++ ks) := by
  induction vs generalizing ls with
  | nil =>
    have : ls = [] := List.eq_nil_of_length_eq_zero (by simpa using h.1.symm); subst this; simpa using hs
  | cons v vs ih =>
    cases ls with
    | nil => have := h.1; simp at this
    | cons l ls =>
      refine AllRd.cons (h.2 0 v l rfl rfl) (ih ⟨by simpa using h.1, fun i u k hu hk => h.2 (i + 1) u k (by simpa using hu) (by simpa using hk)⟩)
theorem AllRd.below {w w' : World} {vs : List Value} {ls : List (List UInt8)} (h : AllRd w vs ls) (hb : Below w.heap.size w w') : AllRd w' vs ls := ⟨h.1, fun i v l hv hl => (h.2 i v l hv hl).below hb⟩
theorem AllRd.one {w : World} {vs : List Value} {ls : List (List UInt8)} (h : AllRd w vs ls) : ∀ u ∈ vs, u.oneCell' = true := by
  intro u hu; obtain ⟨i, hi, rfl⟩ := List.mem_iff_getElem.1 hu; exact (h.2 i _ (ls[i]'(by rw [← h.1]; exact hi)) (List.getElem?_eq_getElem hi) (List.getElem?_eq_getElem (by rw [← h.1]; exact hi))).one
end
end Go.Proofs.YtkjjdgnkelchfaaGreat
namespace Go.Proofs.YtkjjdgnkelchfaaGreat
open Go Go.RowKit Go.ChangeShapes Go.WideShapes Go.ChangeAt
section
variable {H : Type} {enc : TypeId × Value → H} {P : Program} {W : World} {base : Nat}
theorem xfq {z : Int} (h : (Lit.int .u8 z).wf = true) : Value.int .u8 z = bv (UInt8.ofNat z.toNat) := by
  have hz : 0 ≤ z ∧ z ≤ 255 := by simpa [Lit.wf, IntKind.min, IntKind.max, IntKind.signed, IntKind.bits] using h
  unfold bv; congr 1; rw [UInt8.toNat_ofNat_of_lt' (by show _ < 256; omega)]; omega
theorem xed {T E S : TypeId} (B : BT P T E S) (hc : P.cellsOf E = 1) {v : Value} {d : DataW H} {p : List MemPlace} (hv : Value.okWide P W .any base T v) (h : DataW.Trod enc P W 0 (fun _ => true) true T v d p) :
    ∃ A n c l, v = .slice A n c ∧ l.length = n ∧ n ≤ c ∧ Rd W A (bvs l) ∧ ((d = .nil ∧ c = 0) ∨ ∃ es sp, d = .slice es sp ∧ es.length + sp.length = c) := by
  obtain ⟨A, n, c, rfl⟩ := okWide_slice B.t hv; obtain ⟨fuel, hf⟩ := h; rcases open_ints B.t B.e hc hf with ⟨hcs, hx⟩ | ⟨x, l, cap, zs, hcs, _, hl, hm, hz, hx, hcell, hwz⟩
  · simp [Value.cells] at hcs
    obtain ⟨rfl, rfl, rfl⟩ := hcs; simp only [Prod.mk.injEq] at hx; exact ⟨none, 0, 0, [], rfl, rfl, Nat.le_refl _, Rd.nil _ _, .inl ⟨hx.1, rfl⟩⟩
  · simp [Value.cells] at hcs
    obtain ⟨rfl, rfl, rfl⟩ := hcs; simp only [if_true] at hz; simp only [Prod.mk.injEq] at hx; refine ⟨some x, n, c, (zs.take n).map fun z => UInt8.ofNat z.toNat, rfl, by simp; omega, hl, fun _ => ⟨x, rfl, fun j u hu => ?_⟩, .inr ⟨_, _, hx.1, by simp [lits]; omega⟩⟩
    have hj : j < n := by
      have := (List.getElem?_eq_some_iff.1 hu).1; simp [bvs] at this; omega
    have hjz : j < zs.length := by omega
    rw [hcell j hjz]; simp only [bvs, List.map_map, List.getElem?_map, List.getElem?_take_of_lt hj, List.getElem?_eq_getElem hjz, Option.map_some, Function.comp] at hu; rw [← hu, ← xfq (hwz _ (List.getElem_mem hjz))]; simp [hjz]
theorem xmc {n : Nat} {E T : TypeId} {v : Value} (ht : P.underlying T = some (.array n E)) (h : Value.okWide P W .any base T v) : ∃ cs, v = .agg cs ∧ cs.size = P.cellsOf T := by
  simp only [Value.okWide, ht] at h; obtain ⟨cs, h1, h2, _⟩ := h; exact ⟨cs, h1, h2⟩
theorem xg5 {n : Nat} {T E : TypeId} (ht : P.underlying T = some (.array n E)) (he : P.underlying E = some (.int .u8)) (hc : P.cellsOf E = 1) (hn : P.cellsOf T = n) {v : Value} {d : DataW H} {p : List MemPlace}
    (hv : Value.okWide P W .any base T v) (h : DataW.Trod enc P W 0 (fun _ => true) true T v d p) : ∃ k : List UInt8, k.length = n ∧ v = .agg (bvs k).toArray := by
  obtain ⟨cs, rfl, hs⟩ := xmc ht hv; obtain ⟨fuel, hf⟩ := h; obtain ⟨xs, m, _, _, hl, hxl, hi⟩ := DataW.trod_array ht hf; have hsz : cs.size = n := hs.trans hn
  have hone : ∀ i (hi' : i < cs.size), ∃ x : UInt8, cs[i] = bv x := by
    intro i hi'; have h1 := hi i (by omega); rw [hc, Nat.mul_one] at h1
    have hd : (cs.toList.drop i).take 1 = [cs[i]] := by
      rw [List.drop_eq_getElem_cons (by simpa using hi')]; simp
    have h2 : DataW.trod enc P W 0 (fun _ => true) true m E [cs[i]] = some (xs[i]'(by omega)) := by
      rw [← hd]; have := h1; simp only [Value.cells] at this; rw [this, List.getElem?_eq_getElem (by omega)]
    obtain ⟨z, hz, _, hw⟩ := DataW.trod_int he h2; injection hz with hz _; exact ⟨_, by rw [hz, xfq hw]⟩
  refine ⟨(List.range n).map fun i => if h : i < cs.size then (hone i h).choose else 0, by simp, ?_⟩; congr 1; apply Array.ext'; apply List.ext_getElem?; intro i; simp only [bvs, List.map_map, List.getElem?_map]; by_cases h : i < n
  · have h' : i < cs.size := by omega
    simp only [List.getElem?_range h, Option.map_some, Function.comp, dif_pos h']; rw [List.getElem?_eq_getElem (by simpa using h')]; congr 1; exact (hone i h').choose_spec
  · rw [List.getElem?_eq_none (by simp; omega)]
    simp [h]
end
end Go.Proofs.YtkjjdgnkelchfaaGreat
namespace Go.Proofs.YtkjjdgnkelchfaaGreat
open Go Go.RowKit
theorem bt : BT Tryz.prog 25 5 9 := ⟨Tryz.underlying25, Tryz.underlying5, Tryz.underlying9, by kernel_rfl⟩
section
variable {P : Program} {ops : Array Oper} {Q : Exit → Act → World → Prop} {S S' : World → Prop} {F : Nat → Bool}
def wpF (P : Program) (ops : Array Oper) (Q : Exit → Act → World → Prop) (S : World → Prop) (F : Nat → Bool) : Nat → Array Bool → Act → World → Prop
  | 0, listed, a, w => Region.ready .any ops listed = [] ∧ Q .normal a w
  | fuel + 1, listed, a, w =>
    (Region.ready .any ops listed = [] → Q .normal a w) ∧
    ∀ i ∈ Region.ready .any ops listed, wpOp P ops Q i (fun a' w' => (F i = false → S w') ∧ wpF P ops Q S F fuel (listed.setIfInBounds i true) a' w') a w
theorem xjk : ∀ (fuel : Nat) (listed : Array Bool) (a : Act) (w : World), wpF P ops Q S F fuel listed a w → wpAny P .any ops Q fuel listed a w
  | 0, _, _, _, h => h
  | fuel + 1, _, _, _, h => ⟨h.1, fun i hi => wpOp_mono (fun a' w' h' => xjk fuel _ a' w' h'.2) (h.2 i hi)⟩
theorem xhz {i : Nat} {oi : Oper} {v : Value} (hi : ops[i]? = some oi) (hsel : ∀ (j : Nat) (o : Oper) cs b, ops[j]? = some o → o.op ≠ .select cs b)
    (hQ : ∀ c a w, Q (.panic c) (a.put oi.dst v) w → Q (.panic c) a w) :
    ∀ (fuel : Nat) (listed : Array Bool) (a : Act) (w : World),
      (∀ j oj, ops[j]? = some oj → j ≠ i → listed.getD j true = false → (∀ e ∈ oj.after, Region.binds .any e = true → e.on ≠ i) → oi.apart ops oj = true ∧ F j = false) →
      i ∈ Region.ready .any ops listed → YieldsIf P ops S oi v a → S w →
      wpF P ops Q S F fuel (listed.setIfInBounds i true) (a.put oi.dst v) w → wpF P ops Q S F (fuel + 1) listed a w
  | fuel, listed, a, w, hfree, hr, hy, hS, H => by
    refine ⟨fun h => (by rw [h] at hr; cases hr), fun j hj => ?_⟩; by_cases hji : j = i
    · subst hji; exact hy.wpOp hi hS ⟨fun _ => hS, H⟩
    · cases fuel with
      | zero =>
        have := ready_mono hj hji; rw [H.1] at this; cases this
      | succ fuel =>
        have h1 := H.2 j (ready_mono hj hji); obtain ⟨hjun, oj, hoj, hall⟩ := mem_ready.1 hj
        have hnot : ∀ e ∈ oj.after, Region.binds .any e = true → e.on ≠ i := fun e he hb heq => by
          have h1 := hall e he hb; have h0 := (mem_ready.1 hr).1; rw [heq] at h1; rcases Nat.lt_or_ge i listed.size with h' | h'
          · simp [h'] at h0 h1; rw [h0] at h1; cases h1
          · simp [Array.getElem?_eq_none h'] at h1
        obtain ⟨hap, hFj⟩ := hfree j oj hoj hji hjun hnot; have h2 := wpOp_putIf hoj hap (fun cs b => hsel i oi cs b hi) (fun cs b => hsel j oj cs b hoj) hQ hy h1
        have hfree' : ∀ k ok, ops[k]? = some ok → k ≠ i → (listed.setIfInBounds j true).getD k true = false →
            (∀ e ∈ ok.after, Region.binds .any e = true → e.on ≠ i) → oi.apart ops ok = true ∧ F k = false := fun k ok hk hki hun hno => by
          refine hfree k ok hk hki ?_ hno; by_cases hjk : j = k
          · subst hjk; exact hjun
          · rw [getD_set_ne true hjk] at hun; exact hun
        refine wpOp_mono (fun a' w' h3 => ⟨h3.2.1, xhz hi hsel hQ fuel (listed.setIfInBounds j true) a' w' hfree' (ready_mono hr (Ne.symm hji)) h3.1 (h3.2.1 hFj) ?_⟩) h2; rw [Array.setIfInBounds_comm _ _ hji]; exact h3.2.2
def freeF (ops : Array Oper) (F : Nat → Bool) (listed : Array Bool) (i : Nat) : Bool :=
  match ops[i]? with
  | none => false
  | some oi => (Region.ready .any ops listed).contains i && Region.noSelect ops && (List.range ops.size).all fun j => j == i || listed.getD j true || match ops[j]? with
      | some oj => oj.after.any (fun e => Region.binds .any e && e.on == i) || (oi.apart ops oj && !F j)
      | none => true
theorem xjl {i : Nat} {oi : Oper} {listed : Array Bool} (hi : ops[i]? = some oi) (h : freeF ops F listed i = true) :
    i ∈ Region.ready .any ops listed ∧ Region.noSelect ops = true ∧ ∀ (j : Nat) (oj : Oper), ops[j]? = some oj → j ≠ i → listed.getD j true = false →
      (∀ e ∈ oj.after, Region.binds .any e = true → e.on ≠ i) → oi.apart ops oj = true ∧ F j = false := by
  simp only [freeF, hi, Bool.and_eq_true, List.all_eq_true, List.mem_range] at h; refine ⟨by simpa using h.1.1, h.1.2, fun j oj hj hne hun hno => ?_⟩; have h1 := h.2 j (Array.getElem?_eq_some_iff.1 hj).1; simp only [hj, Bool.or_eq_true, beq_iff_eq, hne, false_or, hun, Bool.false_eq_true, Bool.and_eq_true, Bool.not_eq_true'] at h1; rcases h1 with h1 | h1
  · obtain ⟨e, he, hb⟩ := Array.any_eq_true'.1 h1
    simp only [Bool.and_eq_true, beq_iff_eq] at hb; exact absurd hb.2 (hno e he hb.1)
  · exact h1
def listed (n : Nat) : List Nat → Array Bool
  | [] => Array.replicate n false
  | i :: dn => (listed n dn).setIfInBounds i true
def xdw (ops : Array Oper) (F pl : List Nat) : List Nat → List Nat → Bool
  | _, [] => true
  | dn, i :: ord => (if pl.contains i then Region.ready .any ops (listed ops.size dn) == [i] else freeF ops (F.contains ·) (listed ops.size dn) i) && xdw ops F pl (i :: dn) ord
def wpT (P : Program) (ops : Array Oper) (Q : Exit → Act → World → Prop) (S : World → Prop) (F pl : List Nat) (g : Nat) (dn : List Nat) (rest : List (Nat × Oper)) (a : Act) (w : World) : Prop :=
  (∀ x ∈ rest, ops[x.1]? = some x.2) → xdw ops F pl dn (rest.map (·.1)) = true → (∀ c (a a' : Act) w, a'.defers = a.defers → Q (.panic c) a' w → Q (.panic c) a w) →
    wpF P ops Q S (F.contains ·) (rest.length + g) (listed ops.size dn) a w
def pick (l : List Oper) (ord : List Nat) : List (Nat × Oper) := ord.map fun i => (i, l.getD i default)
theorem xnx (l : List Oper) (ord : List Nat) : (pick l ord).map (·.1) = ord := by simp [pick, Function.comp_def]
theorem xmd {l : List Oper} {ord : List Nat} (h : ord.all (· < l.length) = true) : ∀ x ∈ pick l ord, l.toArray[x.1]? = some x.2 := fun x hx => by
  obtain ⟨i, hi, rfl⟩ := List.mem_map.1 hx; have hlt : i < l.length := by simpa using List.all_eq_true.1 h i hi
  simp [hlt]
theorem xny (a : Act) (d : Option Tmp) (v : Value) : (a.put d v).defers = a.defers := by cases d <;> rfl
section
variable {F pl : List Nat} {g : Nat}
theorem rg_begin (S : World → Prop) (F pl ord : List Nat) (g : Nat) {l : List Oper} {id : Nat} {a : Act} {w : World} (hm : P.follows .mixedOrders = true)
    (hp : (xdw l.toArray F pl [] ord && ord.length + g == l.length && ord.all (· < l.length)) = true) (hQ : ∀ c (a a' : Act) w, a'.defers = a.defers → Q (.panic c) a' w → Q (.panic c) a w)
    (h : wpT P l.toArray Q S F pl g [] (pick l ord) a w.drew) : (Code.region id l.toArray true).wp P Q a w := by
  simp only [Bool.and_eq_true, beq_iff_eq] at hp; obtain ⟨⟨h1, h2⟩, h3⟩ := hp; have h4 := h (xmd h3) (by rw [xnx]; exact h1) hQ; have e : (pick l ord).length + g = l.toArray.size := by simp [pick, h2]
  rw [e] at h4; exact wp_region_any hm (xjk _ _ _ _ h4)
theorem xac {i : Nat} {dn : List Nat} {o : Oper} {rest : List (Nat × Oper)} {v : Value} {a : Act} {w : World} (hk : pl.contains i = false) (hw : Region.wanted o (yielded ops a.tmps) = true)
    (hS : S w) (hy : ∀ w, S w → (execOp a.eval o).run P w = .ok (.value v) w)
    (h : wpT P ops Q S F pl g (i :: dn) rest (a.put o.dst v) w) : wpT P ops Q S F pl g dn ((i, o) :: rest) a w := by
  intro hr hp hQ; have hi := hr (i, o) (by simp); simp only [qk, xdw, Bool.and_eq_true, hk, Bool.false_eq_true, if_false] at hp; have h1 := h (fun x hx => hr x (by simp [hx])) hp.2 hQ; obtain ⟨g1, g2, g3⟩ := xjl hi hp.1; rw [show ((i, o) :: rest).length + g = (rest.length + g) + 1 by simp; omega]; exact xhz hi (Region.noSelect_spec g2) (fun c a w hh => hQ c a _ w (xny _ _ _) hh) _ _ a w g3 g1 (.inl ⟨hw, hy⟩) hS h1
theorem xme {i : Nat} {dn : List Nat} {o : Oper} {rest : List (Nat × Oper)} {a : Act} {w : World} (hk : pl.contains i = false) (hw : Region.wanted o (yielded ops a.tmps) = false)
    (hS : S w) (h : wpT P ops Q S F pl g (i :: dn) rest (a.put o.dst undef) w) : wpT P ops Q S F pl g dn ((i, o) :: rest) a w := by
  intro hr hp hQ; have hi := hr (i, o) (by simp); simp only [qk, xdw, Bool.and_eq_true, hk, Bool.false_eq_true, if_false] at hp; have h1 := h (fun x hx => hr x (by simp [hx])) hp.2 hQ; obtain ⟨g1, g2, g3⟩ := xjl hi hp.1; rw [show ((i, o) :: rest).length + g = (rest.length + g) + 1 by simp; omega]; exact xhz hi (Region.noSelect_spec g2) (fun c a w hh => hQ c a _ w (xny _ _ _) hh) _ _ a w g3 g1 (.inr ⟨hw, rfl⟩) hS h1
theorem xb7 {i : Nat} {dn : List Nat} {o : Oper} {rest : List (Nat × Oper)} {a : Act} {w : World} (hk : pl.contains i = true) (hw : Region.wanted o (yielded ops a.tmps) = true)
    (h : ∀ K : Act → World → Prop, (∀ a' w', (F.contains i = false → S w') → wpT P ops Q S F pl g (i :: dn) rest a' w' → K a' w') → o.wp P a w K Q) : wpT P ops Q S F pl g dn ((i, o) :: rest) a w := by
  intro hr hp hQ; have hi := hr (i, o) (by simp); simp only [qk, xdw, Bool.and_eq_true, hk, if_true, beq_iff_eq] at hp; rw [show ((i, o) :: rest).length + g = (rest.length + g) + 1 by simp; omega]; refine ⟨fun h0 => (by rw [hp.1] at h0; cases h0), fun j hj => ?_⟩; rw [hp.1] at hj; obtain rfl : j = i := by simpa using hj
  unfold wpOp; simp only [hi, hw, if_true]; exact .inl (h _ fun a' w' h1 h2 => ⟨h1, h2 (fun x hx => hr x (by simp [hx])) hp.2 hQ⟩)
theorem xmf {i : Nat} {dn : List Nat} {o : Oper} {rest : List (Nat × Oper)} {a : Act} {w : World} (hk : pl.contains i = true) (hw : Region.wanted o (yielded ops a.tmps) = false)
    (hS : S w) (h : wpT P ops Q S F pl g (i :: dn) rest (a.put o.dst undef) w) : wpT P ops Q S F pl g dn ((i, o) :: rest) a w := by
  intro hr hp hQ; have hi := hr (i, o) (by simp); simp only [qk, xdw, Bool.and_eq_true, hk, if_true, beq_iff_eq] at hp; rw [show ((i, o) :: rest).length + g = (rest.length + g) + 1 by simp; omega]; refine ⟨fun h0 => (by rw [hp.1] at h0; cases h0), fun j hj => ?_⟩; rw [hp.1] at hj; obtain rfl : j = i := by simpa using hj
  unfold wpOp; simp only [hi, hw, Bool.false_eq_true, if_false]; exact ⟨fun _ => hS, h (fun x hx => hr x (by simp [hx])) hp.2 hQ⟩
theorem rg_done {dn : List Nat} {a : Act} {w : World} (hp : (Region.ready .any ops (listed ops.size dn) == []) = true) (h : Q .normal a w) : wpT P ops Q S F pl 0 dn [] a w := by
  intro _ _ _; exact ⟨by simpa using hp, h⟩
end
end
theorem xg6 (l : List UInt8) (i : Nat) (x : UInt8) : (bvs l).set i (bv x) = bvs (l.set i x) := by simp [bvs, List.map_set]
theorem mixed : Tryz.prog.follows .mixedOrders = true := by kernel_rfl
theorem rB (S : World → Prop) (F pl ord : List Nat) (g : Nat) {Q : Exit → Act → World → Prop} {l : List Oper} {id : Nat} {a : Act} {w : World} (h : wpT Tryz.prog l.toArray Q S F pl g [] (pick l ord) a w.drew)
    (hp : (xdw l.toArray F pl [] ord && ord.length + g == l.length && ord.all (· < l.length)) = true := by kernel_rfl)
    (hQ : ∀ c (a a' : Act) w, a'.defers = a.defers → Q (.panic c) a' w → Q (.panic c) a w := by exact fun _ _ _ _ e hh => ⟨e.symm.trans hh.1, hh.2⟩) : (Code.region id l.toArray true).wp Tryz.prog Q a w := rg_begin S F pl ord g mixed hp hQ h
theorem xp9 (A : Option Addr) (n c : Nat) (l : List UInt8) (B : Option Addr) (m d : Nat) (k : List UInt8) (w : World) (ha : Rd w A (bvs l)) (hl : l.length = n) (hb : Rd w B (bvs k)) (hk : k.length = m) :
   Calls Tryz.prog 65 #[.slice A n c, .slice B m d] w fun e w' => e = .returned (.bool (l == k)) ∧ w = w' := by
  have HL := hZ hl; clear hl; have HK := hZ hk; clear hk; go_enter Tryz.func65, Tryz.ntmps65
  go_wp2_with (first
    | ((with_reducible refine xax 6 ?_); refine xb9 bt rfl (.tmp 5) rfl A n c rfl l ha HL.out ?_)
    | ((with_reducible refine xax 8 ?_); refine xb9 bt rfl (.tmp 7) rfl B m d rfl k hb HK.out ?_))
  go_ret; exact ⟨rfl, rfl⟩
theorem _root_.Go.World.grownBy.trans' {a b c : World} {row : Option Nat} (h : a.grownBy b row) (k : b.grownBy c row) : a.grownBy c row :=
  ⟨k.os.trans h.os, k.tape.trans h.tape, k.output.trans h.output, Nat.le_trans h.size k.size, fun i hi hs => (k.block i (Nat.lt_of_lt_of_le hi h.size) hs).trans (h.block i hi hs)⟩
theorem xct (w : World) (g i : Nat) (u : Value) : w.grownBy (w.setCell ⟨g, i, none⟩ u) (some g) :=
  ⟨rfl, rfl, rfl, by simp, fun k _ hne => Below.heap_setCell w ⟨g, i, none⟩ u k (fun e => hne (by rw [e]))⟩
theorem ret_i {k : IntKind} {a b : Int} (h : a = b) : Ending.returned (.int k a) = .returned (.int k b) := by rw [h]
theorem st24 : ST Tryz.prog 25 5 1 := bt.st
theorem et24 : ET Tryz.prog 25 (.slice none 0 0) 1 24 := ⟨by kernel_rfl, rfl, by omega⟩
theorem xi1 (ls : List (List UInt8)) (k : Nat) : (ls.take k).flatten.length ≤ ls.flatten.length := by
  induction ls generalizing k with
  | nil => simp
  | cons l ls ih =>
    cases k with
    | zero => simp
    | succ k => have := ih k; simp; simp at this; exact this
theorem xdh (ls : List (List UInt8)) (k : Nat) (h : k < ls.length) : (ls.take (k + 1)).flatten = (ls.take k).flatten ++ ls[k] := by
  rw [List.take_succ_eq_append_getElem h, List.flatten_append]; simp only [List.flatten_cons, List.flatten_nil, qu]
theorem xey (ls : List (List UInt8)) (k : Nat) (h : k < ls.length) : (ls.take k).flatten.length + ls[k].length ≤ ls.flatten.length := by
  have := xi1 ls (k + 1); rw [xdh ls k h] at this; simpa using this
theorem xsu (A : Option Addr) (c : Nat) (vs : List Value) (ls : List (List UInt8)) (w : World) (hr : Rd w A vs) (ha : AllRd w vs ls) (hn : ls.length ≤ 9223372036854775807) (hb : ls.flatten.length ≤ 140737488355328) :
   Calls Tryz.prog 79 #[.slice A ls.length c] w fun e w' => ∃ v, e = .returned v ∧ OwnB w' w.heap.size 5 v ls.flatten ∧ Below w.heap.size w w' := by
  have HL := hZ ha.1; go_enter Tryz.func79, Tryz.ntmps79; go_wp2_with fail
  go_loopw [3, 8] (fun out i wr => ∃ k : Nat, k ≤ ls.length ∧ i = .int .i64 (k : Int) ∧ OwnB wr w.heap.size 5 out (ls.take k).flatten ∧ Below w.heap.size w wr) (fun _ i _ => ls.length - (intOf i).toNat)
  case atStart => exact ⟨0, by omega, by go_num, OwnB.nil _ _ _, Below.refl _ _⟩
  case round =>
    obtain ⟨k, hk, rfl, ho, hw⟩ := hrel; by_cases hlt : k < ls.length
    · obtain ⟨v, hv⟩ : ∃ v, vs[k]? = some v := ⟨_, List.getElem?_eq_getElem (by have := HL.out; omega)⟩
      obtain ⟨ad, rfl, hcc⟩ := hr (by have := HL.out; omega); have hc : wr.cell? (ad.add k) = some v := (hw.cell (World.block_lt_of_cell? w _ (hcc k v hv))).trans (hcc k v hv); obtain ⟨A, d, rfl, hd, hrd⟩ := ha.2 k v ls[k] hv (List.getElem?_eq_getElem hlt); have hlen := xey ls k hlt; have HF := hZ (xdh ls k hlt); go_wp2_with ((with_reducible refine xax 14 ?_); refine xb8 bt rfl (.tmp 12) (.tmp 13) rfl w.heap.size u3 _ rfl ho A ls[k].length d ls[k] rfl rfl (hrd.below hw) (by omega) hw.size ?_; intro v1 w1 ho1 hg1 _); go_roundw
      case rel => exact ⟨k + 1, by omega, by go_num, by rw [HF.out]; exact ho1, hw.grown hg1 hw.size (fun g hg => (ho.lt g hg).1)⟩
      case measure => simp [intOf]; omega
    · obtain rfl : k = ls.length := by omega
      go_wp2
      go_ret; rw [List.take_length] at ho; exact ⟨u3, rfl, ho, hw⟩
theorem xnz (A : Option Addr) (n c : Nat) (vs : List Value) (ls : List (List UInt8)) (w : World) (hl : ls.length = n) (hr : Rd w A vs) (ha : AllRd w vs ls) (hn : ls.length ≤ 9223372036854775807) (hb : ls.flatten.length ≤ 140737488355328) :
   Calls Tryz.prog 79 #[.slice A n c] w fun e w' => ∃ v, e = .returned v ∧ OwnB w' w.heap.size 5 v ls.flatten ∧ Below w.heap.size w w' := by
  subst hl; exact xsu A c vs ls w hr ha hn hb
theorem xg7 (t : UInt8) (A : Option Addr) (n c : Nat) (vs : List Value) (ls : List (List UInt8)) (w : World) (hl : ls.length = n) (hr : Rd w A vs) (ha : AllRd w vs ls) (hn : ls.length ≤ 1099511627776) (hb : ls.flatten.length + 1 ≤ 140737488355328) :
   Calls Tryz.prog 175 #[.int .u8 (t.toNat : Int), .slice A n c] w fun e w' => ∃ v, e = .returned v ∧ OwnB w' w.heap.size 5 v (t :: ls.flatten) ∧ Below w.heap.size w w' := by
  have HL := hZ ha.1; have HN := hZ hl; have hnn : n ≤ 1099511627776 := by omega
  clear hl; have hB0 : Below w.heap.size w ((w.alloc (.cells #[.int .u8 (t.toNat : Int)] 5)).alloc (.cells #[.slice (some ⟨w.heap.size, 0, none⟩) 1 1] 25)) := ((Below.refl _ _).alloc (Nat.le_refl _) _).alloc (by simp) _
  have hO : ((w.alloc (.cells #[.int .u8 (t.toNat : Int)] 5)).alloc (.cells #[.slice (some ⟨w.heap.size, 0, none⟩) 1 1] 25)).ownsRow w.heap.size 25 1 (.slice (some ⟨w.heap.size + 1, 0, none⟩) 1 1) 1 [.slice (some ⟨w.heap.size, 0, none⟩) 1 1] :=
    xjj w.heap.size 1 1 (by have := Blk.new (w.alloc (.cells #[.int .u8 (t.toNat : Int)] 5)) 25 [.slice (some ⟨w.heap.size, 0, none⟩) 1 1]; simpa using this) (by omega) rfl (by unfold maxLen; omega)
  have hT : Blk ((w.alloc (.cells #[.int .u8 (t.toNat : Int)] 5)).alloc (.cells #[.slice (some ⟨w.heap.size, 0, none⟩) 1 1] 25)) w.heap.size 5 (bvs [t]) := (Blk.new w 5 (bvs [t])).alloc _; go_enter Tryz.func175, Tryz.ntmps175; go_wp2_with ((with_reducible refine xax 9 ?_); refine xg4 Tryz.underlying50 et24 rfl (.tmp 7) (.tmp 8) rfl w.heap.size (.slice (some ⟨w.heap.size + 1, 0, none⟩) 1 1) 1 _ rfl hO A n c vs rfl (by have := HL.out; have := HN.out; omega) (hr.below hB0) ha.one (by unfold maxLen; omega) (by omega) hB0.size ?_; intro v1 w1 ho1 hg1); obtain ⟨A1, c1, rfl, hc1, _, hr1⟩ := xgq ho1; have hw1 : Below w.heap.size w w1 := hB0.grown hg1 hB0.size (fun g hg => by simp [Value.ownBlock] at hg; omega); have hT1 : Blk w1 w.heap.size 5 (bvs [t]) := hT.grown hg1 (by simp [Value.ownBlock])
  have hS1 : Sl1 w1 (.slice (some ⟨w.heap.size, 0, none⟩) 1 1) [t] := ⟨_, 1, rfl, by simp, Rd.of_blk0 (es := []) (by simpa using hT1)⟩; have ha1 : AllRd w1 ([.slice (some ⟨w.heap.size, 0, none⟩) 1 1] ++ vs) ([t] :: ls) := (AllRd.cons hS1 (AllRd.nil _)).append (ha.below hw1); clear hO hT hB0 ho1 hg1; go_wp2_with fail; refine (xnz A1 (1 + n) c1 _ ([t] :: ls) w1 (by have := HN.out; simp; omega) hr1 ha1 (by simp only [qr]; omega) (by simp only [List.flatten_cons, qp, qr, qs]; omega)).mono ?_; rintro e w2 ⟨v2, rfl, ho2, hw2⟩; go_wp2_with fail; go_ret; exact ⟨v2, rfl, (by simpa using ho2.mono hw1.size), hw1.trans (hw2.mono hw1.size)⟩
theorem xqa (w : World) : Calls Tryz.prog 163 #[] w fun e w' => ∃ v, e = .returned v ∧ OwnB w' w.heap.size 5 v [0] ∧ Below w.heap.size w w' := by
  go_enter Tryz.func163, Tryz.ntmps163; go_wp2_with fail; refine (xg7 0 none 0 0 [] [] w rfl (Rd.nil _ _) (AllRd.nil _) (by simp) (by simp)).mono ?_; rintro e w1 ⟨v1, rfl, ho1, hw1⟩; go_wp2_with fail; go_ret; exact ⟨v1, rfl, by simpa using ho1, hw1⟩
theorem Rd.one_blk {w : World} {g t : Nat} {u : Value} (h : Blk w g t [u]) : Rd w (some ⟨g, 0, none⟩) [u] := Rd.of_blk0 (es := []) (by simpa using h)
theorem xqb (v : Value) (l : List UInt8) (w : World) (hv : Sl1 w v l) (hl : l.length + 1 ≤ 140737488355328) :
    Calls Tryz.prog 115 #[v] w fun e w' => ∃ v, e = .returned v ∧ OwnB w' w.heap.size 5 v (3 :: l) ∧ Below w.heap.size w w' := by
  have hW : Below w.heap.size w (w.alloc (.cells #[v] 25)) := (Below.refl _ _).alloc (Nat.le_refl _) _; obtain ⟨A, c, rfl, hc, hrd⟩ := hv; have hv : Sl1 w (.slice A l.length c) l := ⟨A, c, rfl, hc, hrd⟩; generalize hvv : Value.slice A l.length c = v at *; have hR : Rd (w.alloc (.cells #[v] 25)) (some ⟨w.heap.size, 0, none⟩) [v] := Rd.one_blk (Blk.new w 25 [v]); subst hvv; go_enter Tryz.func115, Tryz.ntmps115; go_wp2_with fail; refine (xg7 3 (some ⟨w.heap.size, 0, none⟩) 1 1 [.slice A l.length c] [l] _ rfl hR ((AllRd.cons hv (AllRd.nil _)).below hW) (by simp) (by simpa using hl)).mono ?_; rintro e w1 ⟨v1, rfl, ho1, hw1⟩; go_wp2_with fail; go_ret; exact ⟨v1, rfl, by simpa using ho1.mono hW.size, hW.trans (hw1.mono hW.size)⟩
def arr8 (k : List UInt8) : Value := .agg (bvs k).toArray
theorem xsv (k v : List UInt8) (w : World) (hk : k.length = 32) (hv : v.length = 32) :
    Calls Tryz.prog 161 #[arr8 k, arr8 v] w fun e w' => ∃ u, e = .returned u ∧ OwnB w' w.heap.size 5 u (1 :: (k ++ v)) ∧ Below w.heap.size w w' := by
  have HK := hZ hk; have HV := hZ hv; clear hk hv; unfold arr8; go_enter Tryz.func161, Tryz.ntmps161; go_wp2_with fail; generalize hW : (w.alloc (.cells (bvs k).toArray 24)).alloc (.cells (bvs v).toArray 23) = w0; have hB0 : Below w.heap.size w w0 := by rw [← hW]; exact ((Below.refl _ _).alloc (Nat.le_refl _) _).alloc (by simp) _
  have hbk : Blk w0 w.heap.size 24 (bvs k) := by rw [← hW]; exact (Blk.new _ _ _).alloc _
  have hbv : Blk w0 (w.heap.size + 1) 23 (bvs v) := by
    rw [← hW]; have := Blk.new (w.alloc (.cells (bvs k).toArray 24)) 23 (bvs v); simpa using this
  clear hW; have hsk : Sl1 w0 (.slice (some ⟨w.heap.size, 0, none⟩) 32 32) k := ⟨_, 32, by rw [HK.out], by rw [HK.out]; omega, Rd.of_blk0 (es := []) (by simpa using hbk)⟩; have hsv : Sl1 w0 (.slice (some ⟨w.heap.size + 1, 0, none⟩) 32 32) v := ⟨_, 32, by rw [HV.out], by rw [HV.out]; omega, Rd.of_blk0 (es := []) (by simpa using hbv)⟩; refine rB (Below w0.heap.size w0) [] [2, 3] [0, 1, 2, 3, 4] 0 ?_; refine X2 ?_; refine X3 ?_; intro hS; refine X7 ?_; refine xb7 rfl rfl ?_; intro K hK; go_simp; refine X8 ?_; intro hS1
  have hR1 : Rd (w0.alloc (.cells #[.slice (some ⟨w.heap.size, 0, none⟩) 32 32, .slice (some ⟨w.heap.size + 1, 0, none⟩) 32 32] 25)).drew (some ⟨w0.heap.size, 0, none⟩) [.slice (some ⟨w.heap.size, 0, none⟩) 32 32, .slice (some ⟨w.heap.size + 1, 0, none⟩) 32 32] :=
    Rd.of_blk0 (es := []) (by simpa using (Blk.new w0 25 [.slice (some ⟨w.heap.size, 0, none⟩) 32 32, .slice (some ⟨w.heap.size + 1, 0, none⟩) 32 32]).drew)
  refine X9 ?_; clear hK; generalize (w0.alloc (.cells #[.slice (some ⟨w.heap.size, 0, none⟩) 32 32, .slice (some ⟨w.heap.size + 1, 0, none⟩) 32 32] 25)).drew = w1 at *; refine xb7 rfl rfl ?_; intro K hK; go_simp; refine (xg7 1 (some ⟨w0.heap.size, 0, none⟩) 2 2 _ [k, v] w1 rfl hR1 ((AllRd.cons hsk (AllRd.cons hsv (AllRd.nil _))).below hS1) (by simp) (by have := HK.out; have := HV.out; simp; omega)).mono ?_; rintro e w2 ⟨v2, rfl, ho2, hw2⟩; have hS2 : Below w0.heap.size w0 w2 := hS1.trans (hw2.mono hS1.size); refine Xa ?_; clear hK; refine Xb ?_; refine Xd ?_; go_wp2_with fail; go_ret; exact ⟨v2, rfl, by simpa using ho2.mono (Nat.le_trans hB0.size hS1.size), hB0.trans (hS2.mono hB0.size)⟩
theorem xqc (k v : List UInt8) (w : World) (hk : k.length = 32) (hv : v.length = 32) :
    Calls Tryz.prog 162 #[arr8 k, arr8 v] w fun e w' => ∃ u, e = .returned u ∧ OwnB w' w.heap.size 5 u (2 :: (k ++ v)) ∧ Below w.heap.size w w' := by
  have HK := hZ hk; have HV := hZ hv; clear hk hv; unfold arr8; go_enter Tryz.func162, Tryz.ntmps162; go_wp2_with fail; generalize hW : (w.alloc (.cells (bvs k).toArray 23)).alloc (.cells (bvs v).toArray 23) = w0; have hB0 : Below w.heap.size w w0 := by rw [← hW]; exact ((Below.refl _ _).alloc (Nat.le_refl _) _).alloc (by simp) _
  have hbk : Blk w0 w.heap.size 23 (bvs k) := by rw [← hW]; exact (Blk.new _ _ _).alloc _
  have hbv : Blk w0 (w.heap.size + 1) 23 (bvs v) := by
    rw [← hW]; have := Blk.new (w.alloc (.cells (bvs k).toArray 23)) 23 (bvs v); simpa using this
  clear hW; have hsk : Sl1 w0 (.slice (some ⟨w.heap.size, 0, none⟩) 32 32) k := ⟨_, 32, by rw [HK.out], by rw [HK.out]; omega, Rd.of_blk0 (es := []) (by simpa using hbk)⟩; have hsv : Sl1 w0 (.slice (some ⟨w.heap.size + 1, 0, none⟩) 32 32) v := ⟨_, 32, by rw [HV.out], by rw [HV.out]; omega, Rd.of_blk0 (es := []) (by simpa using hbv)⟩; refine rB (Below w0.heap.size w0) [] [2, 3] [0, 1, 2, 3, 4] 0 ?_; refine X2 ?_; refine X3 ?_; intro hS; refine X7 ?_; refine xb7 rfl rfl ?_; intro K hK; go_simp; refine X8 ?_; intro hS1
  have hR1 : Rd (w0.alloc (.cells #[.slice (some ⟨w.heap.size, 0, none⟩) 32 32, .slice (some ⟨w.heap.size + 1, 0, none⟩) 32 32] 25)).drew (some ⟨w0.heap.size, 0, none⟩) [.slice (some ⟨w.heap.size, 0, none⟩) 32 32, .slice (some ⟨w.heap.size + 1, 0, none⟩) 32 32] :=
    Rd.of_blk0 (es := []) (by simpa using (Blk.new w0 25 [.slice (some ⟨w.heap.size, 0, none⟩) 32 32, .slice (some ⟨w.heap.size + 1, 0, none⟩) 32 32]).drew)
  refine X9 ?_; clear hK; generalize (w0.alloc (.cells #[.slice (some ⟨w.heap.size, 0, none⟩) 32 32, .slice (some ⟨w.heap.size + 1, 0, none⟩) 32 32] 25)).drew = w1 at *; refine xb7 rfl rfl ?_; intro K hK; go_simp; refine (xg7 2 (some ⟨w0.heap.size, 0, none⟩) 2 2 _ [k, v] w1 rfl hR1 ((AllRd.cons hsk (AllRd.cons hsv (AllRd.nil _))).below hS1) (by simp) (by have := HK.out; have := HV.out; simp; omega)).mono ?_; rintro e w2 ⟨v2, rfl, ho2, hw2⟩; have hS2 : Below w0.heap.size w0 w2 := hS1.trans (hw2.mono hS1.size); refine Xa ?_; clear hK; refine Xb ?_; refine Xd ?_; go_wp2_with fail; go_ret; exact ⟨v2, rfl, by simpa using ho2.mono (Nat.le_trans hB0.size hS1.size), hB0.trans (hS2.mono hB0.size)⟩
def be : Nat → Nat → List UInt8
  | 0, _ => []
  | n + 1, v => be n (v / 256) ++ [UInt8.ofNat v]
theorem xb1 (n v : Nat) : (be n v).length = n := by induction n generalizing v <;> simp [be, *]
def putL (n : Nat) (m v : Int) : List UInt8 := if 0 ≤ v ∧ v ≤ m then be n v.toNat else []
def putE (m v : Int) : Int := if 0 ≤ v ∧ v ≤ m then 0 else 2
theorem bv_wrap (z : Int) (h : 0 ≤ z) : Value.int .u8 (IntKind.u8.wrap z) = bv (UInt8.ofNat z.toNat) := by
  unfold bv; congr 1; rw [IntKind.wrap_u8, UInt8.toNat_ofNat']; omega
theorem xfb (z : Int) (h : 0 ≤ z) : Value.int .u8 (z % 256) = bv (UInt8.ofNat z.toNat) := by
  rw [← bv_wrap z h, IntKind.wrap_u8]
theorem xg8 (z : Int) (h : 0 ≤ z) (h' : z ≤ 255) : Value.int .u8 z = bv (UInt8.ofNat z.toNat) := by
  rw [← xfb z h, Int.emod_eq_of_lt h (by omega)]
theorem put16 (n : Int) (w : World) (hn : -9223372036854775808 ≤ n ∧ n ≤ 9223372036854775807) :
    Calls Tryz.prog 101 #[.int .i64 n] w fun e w' => ∃ v, e = .returned (.tuple #[v, .int .i64 (putE 65535 n)]) ∧ OwnB w' w.heap.size 5 v (putL 2 65535 n) ∧ Below w.heap.size w w' := by
  by_cases h0 : n < 0
  · have e1 : putE 65535 n = 2 := by unfold putE; rw [if_neg (by omega)]
    have e2 : putL 2 65535 n = [] := by unfold putL; rw [if_neg (by omega)]
    rw [e1, e2]; clear e1 e2; go_enter Tryz.func101, Tryz.ntmps101
    go_wp2
    go_ret2; exact ⟨_, rfl, OwnB.nil _ _ _, Below.refl _ _⟩
  · by_cases h1 : 65535 < n
    · have e1 : putE 65535 n = 2 := by unfold putE; rw [if_neg (by omega)]
      have e2 : putL 2 65535 n = [] := by unfold putL; rw [if_neg (by omega)]
      rw [e1, e2]; clear e1 e2; go_enter Tryz.func101, Tryz.ntmps101
      go_wp2
      go_ret2; exact ⟨_, rfl, OwnB.nil _ _ _, Below.refl _ _⟩
    · have e1 : putE 65535 n = 0 := by unfold putE; rw [if_pos (by omega)]
      have e2 : putL 2 65535 n = [UInt8.ofNat (n / 256).toNat, UInt8.ofNat n.toNat] := by
        unfold putL; rw [if_pos (by omega)]; have : n.toNat / 256 = (n / 256).toNat := by omega
        simp [be, this]
      rw [e1, e2]; clear e1 e2; go_enter Tryz.func101, Tryz.ntmps101
      go_wp2
      go_ret2; have e := Blk.new w 5 [Value.int .u8 (n / 256), Value.int .u8 (n % 256)]; rw [xg8 (n / 256) (by omega) (by omega), xfb n (by omega)] at e; refine ⟨_, rfl, .inr ⟨w.heap.size, [], rfl, Nat.le_refl _, by unfold maxLen; simp, ?_⟩, (Below.refl _ _).alloc (Nat.le_refl _) _⟩; rw [xg8 (n / 256) (by omega) (by omega), xfb n (by omega)]; exact e
theorem put32 (n : Int) (w : World) (hn : -9223372036854775808 ≤ n ∧ n ≤ 9223372036854775807) :
    Calls Tryz.prog 77 #[.int .i64 n] w fun e w' => ∃ v, e = .returned (.tuple #[v, .int .i64 (putE 4294967295 n)]) ∧ OwnB w' w.heap.size 5 v (putL 4 4294967295 n) ∧ Below w.heap.size w w' := by
  by_cases h0 : n < 0
  · have e1 : putE 4294967295 n = 2 := by unfold putE; rw [if_neg (by omega)]
    have e2 : putL 4 4294967295 n = [] := by unfold putL; rw [if_neg (by omega)]
    rw [e1, e2]; clear e1 e2; go_enter Tryz.func77, Tryz.ntmps77
    go_wp2
    go_ret2; exact ⟨_, rfl, OwnB.nil _ _ _, Below.refl _ _⟩
  · by_cases h1 : 4294967295 < n
    · have e1 : putE 4294967295 n = 2 := by unfold putE; rw [if_neg (by omega)]
      have e2 : putL 4 4294967295 n = [] := by unfold putL; rw [if_neg (by omega)]
      rw [e1, e2]; clear e1 e2; go_enter Tryz.func77, Tryz.ntmps77
      go_wp2
      go_ret2; exact ⟨_, rfl, OwnB.nil _ _ _, Below.refl _ _⟩
    · have e1 : putE 4294967295 n = 0 := by unfold putE; rw [if_pos (by omega)]
      have e2 : putL 4 4294967295 n = [UInt8.ofNat (n / 16777216).toNat, UInt8.ofNat (n / 65536).toNat, UInt8.ofNat (n / 256).toNat, UInt8.ofNat n.toNat] := by
        unfold putL; rw [if_pos (by omega)]; have a1 : n.toNat / 256 = (n / 256).toNat := by omega
        have a2 : (n / 256).toNat / 256 = (n / 65536).toNat := by omega
        have a3 : (n / 65536).toNat / 256 = (n / 16777216).toNat := by omega
        simp only [be, a3, a2, a1, qn, qm]
      rw [e1, e2]; clear e1 e2; go_enter Tryz.func77, Tryz.ntmps77
      go_wp2
      go_ret2; have e := Blk.new w 5 [bv (UInt8.ofNat (n / 16777216).toNat), bv (UInt8.ofNat (n / 65536).toNat), bv (UInt8.ofNat (n / 256).toNat), bv (UInt8.ofNat n.toNat)]; rw [← xfb n (by omega), ← xfb (n / 256) (by omega), ← xfb (n / 65536) (by omega), ← xg8 (n / 16777216) (by omega) (by omega)] at e; refine ⟨_, rfl, .inr ⟨w.heap.size, [], rfl, Nat.le_refl _, by unfold maxLen; simp, ?_⟩, (Below.refl _ _).alloc (Nat.le_refl _) _⟩; simp only [bvs, qu, qk, ql]; rw [← xfb n (by omega), ← xfb (n / 256) (by omega), ← xfb (n / 65536) (by omega), ← xg8 (n / 16777216) (by omega) (by omega)]; exact e
theorem xrr (j v : Nat) : be (j + 1) v = UInt8.ofNat (v / 256 ^ j) :: be j v := by
  induction j generalizing v with
  | zero => simp [be]
  | succ j ih =>
    rw [be, ih, be, Nat.div_div_eq_div_mul, ← Nat.pow_succ']; rfl
end Go.Proofs.YtkjjdgnkelchfaaGreat
