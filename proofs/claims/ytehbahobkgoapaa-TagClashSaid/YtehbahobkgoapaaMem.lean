/- Memory words: blocks that are known whole, byte slices that are read, byte slices of the call's own; laws for make, copy, append, conversions over them. No condition but what each theorem states. -/
import Derived.WalkKit
import Derived.OwnWalk
import Derived.Below
import Derived.Laws.CopyOwn
import Derived.Laws.BytesString
import Derived.Laws.OwnMore
import Derived.Lib.Hide
import Derived.Deep.Draws
namespace Go.Proofs.Ytehbahobkgoapaa
open Go Go.RowKit

/-- A byte as the model's value. -/
def bv (x : UInt8) : Value := .int .u8 (x.toNat : Int)
def bvs (l : List UInt8) : List Value := l.map bv

theorem bvs_length (l : List UInt8) : (bvs l).length = l.length := by simp [bvs]
theorem bvs_append (l m : List UInt8) : bvs (l ++ m) = bvs l ++ bvs m := by simp [bvs]
theorem bvs_get (l : List UInt8) (i : Nat) : (bvs l)[i]? = l[i]?.map bv := by simp [bvs]
theorem bvs_inj {l m : List UInt8} (h : bvs l = bvs m) : l = m := by
  have hb : ∀ x y : UInt8, bv x = bv y → x = y := by
    intro x y e
    unfold bv at e
    injection e with _ e
    exact UInt8.toNat_inj.1 (by omega)
  exact List.map_inj_right hb |>.1 h
theorem bvs_one (l : List UInt8) : ∀ u ∈ bvs l, u.oneCell' = true := by
  intro u hu
  obtain ⟨x, _, rfl⟩ := List.mem_map.1 hu
  rfl

/-- Block g holds just the cells cs, of element type t, none frozen. -/
def Blk (w : World) (g : Nat) (t : TypeId) (cs : List Value) : Prop := w.heap[g]? = some (.cells cs.toArray t (0, 0))

section
variable {w w' : World} {g : Nat} {t : TypeId} {cs : List Value}
theorem Blk.lt (h : Blk w g t cs) : g < w.heap.size := by
  rcases Nat.lt_or_ge g w.heap.size with hlt | hge
  · exact hlt
  · unfold Blk at h; rw [Array.getElem?_eq_none hge] at h; cases h
theorem Blk.cell (h : Blk w g t cs) (i : Nat) : w.cell? ⟨g, i, none⟩ = cs[i]? := by
  rw [cell_of_row w g i cs.toArray t (0, 0) h]; simp
theorem Blk.free (h : Blk w g t cs) (i : Nat) : w.frozen? ⟨g, i, none⟩ = false := frozen_of_row w g i cs.toArray t h
theorem Blk.new (w : World) (t : TypeId) (cs : List Value) : Blk (w.alloc (.cells cs.toArray t)) w.heap.size t cs := heap_alloc_new w _
theorem Blk.drew (h : Blk w g t cs) : Blk w.drew g t cs := h
theorem Blk.drewN (h : Blk w g t cs) (n : Nat) : Blk (w.drewN n) g t cs := h
theorem Blk.alloc (h : Blk w g t cs) (o : Obj) : Blk (w.alloc o) g t cs := (Below.heap_alloc w o g h.lt).trans h
theorem Blk.set_ (h : Blk w g t cs) (i : Nat) (u : Value) : Blk (w.setCell ⟨g, i, none⟩ u) g t (cs.set i u) := by
  have := heap_setCell_same w g i cs.toArray t u h
  unfold Blk
  rw [this]; simp
theorem Blk.far (h : Blk w g t cs) {p : Addr} (hp : g ≠ p.block) (u : Value) : Blk (w.setCell p u) g t cs := (Below.heap_setCell w p u g hp).trans h
theorem Blk.below {B : Nat} (h : Blk w g t cs) (hb : Below B w w') (hg : g < B) : Blk w' g t cs := (hb.block g hg).trans h
theorem Blk.grown {row : Option Nat} (h : Blk w g t cs) (hb : w.grownBy w' row) (hg : some g ≠ row) : Blk w' g t cs := (hb.block g h.lt hg).trans h
theorem Blk.row (h : Blk w g t cs) (ds : List Value) : Blk (w.setRow g ds.toArray) g t ds := setRow_heap w g cs.toArray ds.toArray t (0, 0) h
theorem Blk.rowFar (h : Blk w g t cs) {k : Nat} (hk : g ≠ k) (ds : Array Value) : Blk (w.setRow k ds) g t cs := (setRow_other w k g ds hk).trans h
theorem Blk.ne (h : Blk w g t cs) {g' : Nat} {t' : TypeId} {cs' : List Value} (h' : Blk w g' t' cs') (hne : t ≠ t') : g ≠ g' := by
  rintro rfl
  unfold Blk at h h'
  rw [h] at h'
  injection h' with h'
  injection h' with _ ht
  exact hne ht
end

/-- The n cells from A on are cs (size cells each element; nil where n = 0 is let in). -/
def Rd (w : World) (A : Option Addr) (cs : List Value) : Prop :=
  0 < cs.length → ∃ ad, A = some ad ∧ ∀ j u, cs[j]? = some u → w.cell? (ad.add j) = some u

section
variable {w w' : World} {A : Option Addr} {cs : List Value}
theorem Rd.nil (w : World) (A : Option Addr) : Rd w A [] := fun h => absurd h (by simp)
theorem Rd.at_ (h : Rd w A cs) {k : Nat} (hk : k < cs.length) : ∃ ad, A = some ad ∧ w.cell? (ad.add k) = some cs[k] := by
  obtain ⟨ad, e, hc⟩ := h (by omega)
  exact ⟨ad, e, hc k _ (List.getElem?_eq_getElem hk)⟩
theorem Rd.keep (h : Rd w A cs) (hk : ∀ (p : Addr) u, w.cell? p = some u → w'.cell? p = some u) : Rd w' A cs := fun hn => by
  obtain ⟨ad, e, hc⟩ := h hn
  exact ⟨ad, e, fun j u hu => hk _ _ (hc j u hu)⟩
theorem Rd.below (h : Rd w A cs) (hb : Below w.heap.size w w') : Rd w' A cs :=
  h.keep fun p _ hp => (hb.cell (World.block_lt_of_cell? w p hp)).trans hp
theorem Rd.drew (h : Rd w A cs) : Rd w.drew A cs := h
theorem Rd.drewN (h : Rd w A cs) (k : Nat) : Rd (w.drewN k) A cs := h
theorem Rd.alloc (h : Rd w A cs) (o : Obj) : Rd (w.alloc o) A cs := h.keep fun p _ hp => (World.cell?_alloc_lt w o p (World.block_lt_of_cell? w p hp)).trans hp
theorem Rd.of_blk {g : Nat} {t : TypeId} {ds : List Value} (h : Blk w g t ds) (o n : Nat) (_hn : o + n ≤ ds.length) : Rd w (some ⟨g, o, none⟩) ((ds.drop o).take n) := fun _ => by
  refine ⟨_, rfl, fun j u hu => ?_⟩
  have hj : j < n := by
    have := (List.getElem?_eq_some_iff.1 hu).1
    simp at this; omega
  have : (⟨g, o, none⟩ : Addr).add j = ⟨g, o + j, none⟩ := by
    unfold Addr.add; split
    · subst_vars; rfl
    · rfl
  rw [this, h.cell]
  rw [List.getElem?_take_of_lt hj, List.getElem?_drop] at hu
  exact hu
theorem Rd.of_blk0 {g : Nat} {t : TypeId} {ds es : List Value} (h : Blk w g t (ds ++ es)) : Rd w (some ⟨g, 0, none⟩) ds := by
  have := Rd.of_blk h 0 ds.length (by simp)
  simpa using this
theorem Rd.cut (h : Rd w A cs) (k m : Nat) : Rd w (A.map (·.add k)) ((cs.drop k).take m) := fun hn => by
  obtain ⟨ad, rfl, hc⟩ := h (by simp at hn; omega)
  refine ⟨ad.add k, rfl, fun j u hu => ?_⟩
  have e : (ad.add k).add j = ad.add (k + j) := by
    unfold Addr.add
    by_cases hi : k = 0 <;> by_cases hj : j = 0 <;> simp [hi, hj, Nat.add_assoc]
  rw [e]
  apply hc
  have hj : j < m := by
    have := (List.getElem?_eq_some_iff.1 hu).1
    simp at this; omega
  rw [List.getElem?_take_of_lt hj, List.getElem?_drop] at hu
  exact hu
theorem Rd.take (h : Rd w A cs) (m : Nat) : Rd w A (cs.take m) := fun hn => by
  obtain ⟨ad, rfl, hc⟩ := h (by simp at hn; omega)
  refine ⟨ad, rfl, fun j u hu => hc j u ?_⟩
  have hj : j < m := by
    have := (List.getElem?_eq_some_iff.1 hu).1
    simp at this; omega
  rwa [List.getElem?_take_of_lt hj] at hu
end
/-- Of what was there in w nothing has turned but the blocks in S. -/
structure Fr (S : Nat → Prop) (w w' : World) : Prop where
  os : w'.os = w.os
  tape : w'.tape = w.tape
  output : w'.output = w.output
  size : w.heap.size ≤ w'.heap.size
  block : ∀ k, k < w.heap.size → ¬ S k → w'.heap[k]? = w.heap[k]?

section
variable {S : Nat → Prop} {a b c w w' : World}
theorem Fr.refl (S : Nat → Prop) (w : World) : Fr S w w := ⟨rfl, rfl, rfl, Nat.le_refl _, fun _ _ _ => rfl⟩
theorem Fr.trans (h : Fr S a b) (k : Fr S b c) : Fr S a c :=
  ⟨k.os.trans h.os, k.tape.trans h.tape, k.output.trans h.output, Nat.le_trans h.size k.size, fun i hi hs => (k.block i (Nat.lt_of_lt_of_le hi h.size) hs).trans (h.block i hi hs)⟩
theorem Fr.below (h : Fr S a b) (k : Below b.heap.size b c) : Fr S a c :=
  ⟨k.os.trans h.os, k.tape.trans h.tape, k.output.trans h.output, Nat.le_trans h.size k.size, fun i hi hs => (k.block i (Nat.lt_of_lt_of_le hi h.size)).trans (h.block i hi hs)⟩
theorem Fr.grown {row : Option Nat} (h : Fr S a b) (k : b.grownBy c row) (hr : ∀ g, row = some g → S g ∨ a.heap.size ≤ g) : Fr S a c :=
  ⟨k.os.trans h.os, k.tape.trans h.tape, k.output.trans h.output, Nat.le_trans h.size k.size, fun i hi hs => (k.block i (Nat.lt_of_lt_of_le hi h.size) (fun e => by
    rcases hr i e.symm with h1 | h1
    · exact hs h1
    · omega)).trans (h.block i hi hs)⟩
theorem Fr.drew (h : Fr S a b) : Fr S a b.drew := ⟨h.os, h.tape, h.output, h.size, h.block⟩
theorem Fr.alloc (h : Fr S a b) (o : Obj) : Fr S a (b.alloc o) := h.below ((Below.refl _ _).alloc (Nat.le_refl _) _)
theorem Fr.setCell (h : Fr S a b) {p : Addr} (hp : S p.block ∨ a.heap.size ≤ p.block) (u : Value) : Fr S a (b.setCell p u) :=
  ⟨h.os, h.tape, h.output, by simpa [World.setCell] using h.size, fun i hi hs => (Below.heap_setCell b p u i (by
    rintro rfl
    rcases hp with hp | hp
    · exact hs hp
    · omega)).trans (h.block i hi hs)⟩
theorem Fr.of_below (h : Below a.heap.size a b) : Fr S a b := ⟨h.os, h.tape, h.output, h.size, fun i hi _ => h.block i hi⟩
theorem Fr.to_below (h : Fr S a b) (hS : ∀ k, k < a.heap.size → S k → b.heap[k]? = a.heap[k]?) : Below a.heap.size a b :=
  ⟨h.os, h.tape, h.output, h.size, fun i hi => by
    by_cases hs : S i
    · exact hS i hi hs
    · exact h.block i hi hs⟩
theorem Rd.fr {A : Option Addr} {cs : List Value} (h : Rd a A cs) (hf : Fr S a b) (hA : ∀ ad, A = some ad → ¬ S ad.block) : Rd b A cs := fun hn => by
  obtain ⟨ad, e, hc⟩ := h hn
  refine ⟨ad, e, fun j u hu => ?_⟩
  have h1 := hc j u hu
  have hb : (ad.add j).block = ad.block := by unfold Addr.add; split <;> rfl
  have hlt := World.block_lt_of_cell? a _ h1
  rw [World.cell?_of_block (w := a) (hf.block _ hlt (by rw [hb]; exact hA ad e)), h1]
theorem Blk.fr {g : Nat} {t : TypeId} {cs : List Value} (h : Blk a g t cs) (hf : Fr S a b) (hg : ¬ S g) : Blk b g t cs := (hf.block g h.lt hg).trans h
end

/-! Guards: each is the goal itself, and fits one operation alone. -/
section
variable {P : Program} {ops : Array Oper} {rest : List Oper} {a : Act} {w : World} {Q : Exit → Act → World → Prop}
theorem at_dst (d : Tmp) {op : Op} {ty : TypeId} {pos : String} {after : Array Edge} {g : Option (Nat × Bool)}
    (h : wpList P ops Q (⟨some d, op, ty, pos, after, g⟩ :: rest) a w) : wpList P ops Q (⟨some d, op, ty, pos, after, g⟩ :: rest) a w := h
theorem at_op (op : Op) {d : Option Tmp} {ty : TypeId} {pos : String} {after : Array Edge} {g : Option (Nat × Bool)}
    (h : wpList P ops Q (⟨d, op, ty, pos, after, g⟩ :: rest) a w) : wpList P ops Q (⟨d, op, ty, pos, after, g⟩ :: rest) a w := h
end
end Go.Proofs.Ytehbahobkgoapaa
