/- Plain facts for the digest: what stands in a state's block, how the text is ended, how the words are told. No program in sight. -/
import Derived.Test.YtehbahobkgoapaaWp
namespace Go.Proofs.Ytehbahobkgoapaa
open Go Go.RowKit
set_option linter.unusedSimpArgs false
set_option linter.unusedVariables false

/-- The block's bytes of a state that holds m. -/
def StB (m b : List UInt8) : Prop := b.length = 64 ∧ b.take (m.length % 64) = tailOf m
theorem stb_len {m b : List UInt8} (h : StB m b) : b.length = 64 := h.1
theorem splice_bytes_length (b x : List UInt8) (k : Nat) (h : k + x.length ≤ b.length) : (splice b k x).length = b.length := splice_length b k x h
theorem stb_few {m b : List UInt8} (h : StB m b) (x : List UInt8) (hx : m.length % 64 + x.length < 64) :
    StB (m ++ x) (splice b (m.length % 64) x) ∧ hOf (m ++ x) = hOf m ∧ (m ++ x).length % 64 = m.length % 64 + x.length := by
  obtain ⟨hb, ht⟩ := h
  obtain ⟨f1, f2⟩ := more_few m x hx
  have e : (m ++ x).length % 64 = m.length % 64 + x.length := by rw [List.length_append]; omega
  refine ⟨⟨?_, ?_⟩, f1, e⟩
  · rw [splice_bytes_length _ _ _ (by omega), hb]
  · rw [e, f2, ← ht]
    unfold splice
    have hl : (List.take (m.length % 64) b).length = m.length % 64 := by rw [List.length_take]; omega
    rw [List.take_append, hl, Nat.add_sub_cancel_left, List.take_of_length_le (by omega)]
    rw [List.take_append_of_le_length (Nat.le_refl _), List.take_of_length_le (Nat.le_refl _)]
theorem stb_full {m b : List UInt8} (h : StB m b) (x : List UInt8) (hx : m.length % 64 + x.length = 64) :
    (∀ c : List UInt8, c.length = 64 → StB (m ++ x) c) ∧ hOf (m ++ x) = step (hOf m) (splice b (m.length % 64) x) ∧ (m ++ x).length % 64 = 0 ∧ (splice b (m.length % 64) x).length = 64 := by
  obtain ⟨hb, ht⟩ := h
  obtain ⟨f1, f2⟩ := more_full m x hx
  have e : (m ++ x).length % 64 = 0 := by rw [List.length_append]; omega
  refine ⟨fun c hc => ⟨hc, ?_⟩, ?_, e, ?_⟩
  · rw [e, f2]; rfl
  · rw [f1]
    congr 1
    unfold splice
    rw [ht, List.drop_eq_nil_of_le (by omega), List.append_nil]
  · rw [splice_bytes_length _ _ _ (by omega), hb]

theorem u8_mod (a b : Nat) (h : a % 256 = b % 256) : UInt8.ofNat a = UInt8.ofNat b := by
  apply UInt8.toNat_inj.1
  rw [UInt8.toNat_ofNat', UInt8.toNat_ofNat']
  exact h
theorem be4_mod (v : Nat) : be 4 (v % 4294967296) = be 4 v := by
  simp only [be, List.nil_append, List.cons_append, Nat.div_div_eq_div_mul, Nat.reduceMul]
  rw [u8_mod (v % 4294967296 / 16777216) (v / 16777216) (by omega), u8_mod (v % 4294967296 / 65536) (v / 65536) (by omega), u8_mod (v % 4294967296 / 256) (v / 256) (by omega), u8_mod (v % 4294967296) v (by omega)]
theorem be_split (v : Nat) : be 8 v = be 4 (v / 4294967296) ++ be 4 (v % 4294967296) := by
  rw [be4_mod]
  simp only [be, List.nil_append, List.cons_append, Nat.div_div_eq_div_mul, Nat.reduceMul]

/-- The text after the 128 and j zeros. -/
def padTo (m : List UInt8) (j : Nat) : List UInt8 := m ++ 128 :: List.replicate j 0
theorem padTo_length (m : List UInt8) (j : Nat) : (padTo m j).length = m.length + 1 + j := by simp [padTo]; omega
theorem padTo_zero (m : List UInt8) : m ++ [128] = padTo m 0 := rfl
theorem padTo_succ (m : List UInt8) (j : Nat) : padTo m j ++ [0] = padTo m (j + 1) := by
  unfold padTo
  rw [List.append_assoc, List.cons_append, ← List.replicate_succ']
theorem padTo_end (m : List UInt8) : padTo m (padz m.length) ++ be 8 (8 * m.length) = pad m := by
  unfold padTo pad
  rw [List.append_assoc, List.cons_append]
theorem padTo_stop (n j : Nat) (h : j ≤ padz n) : (n + 1 + j) % 64 = 56 ↔ j = padz n := by
  unfold padz at *
  omega
theorem padz_lt (n : Nat) : padz n < 64 := Nat.mod_lt _ (by omega)
theorem pad_length (m : List UInt8) : (pad m).length = 64 * ((m.length + 9 + padz m.length) / 64) := by
  unfold pad
  simp only [List.length_append, List.length_cons, List.length_replicate, be_length]
  unfold padz
  omega
theorem be_snoc (v j : Nat) (hj : j < 8) (l : List UInt8) : (l ++ [UInt8.ofNat (v / 256 ^ j)]) ++ be j v = l ++ be (j + 1) v := by
  rw [be_cons, List.append_assoc]
  rfl
theorem blocks_one (k : Nat) (l : List UInt8) : blocks (k + 1) shaH l = step (blocks k shaH l) ((l.drop (64 * k)).take 64) := by
  rw [blocks_add]
  rfl

/-- The digest's bytes while they are told, word by word. -/
def outW (h : List Nat) (i : Nat) : List UInt8 := (h.take i).flatMap (be 4) ++ List.replicate (32 - 4 * i) 0
theorem flat_len (h : List Nat) : (h.flatMap (be 4)).length = 4 * h.length := by
  induction h with
  | nil => rfl
  | cons a h ih => rw [List.flatMap_cons, List.length_append, ih, be_length, List.length_cons]; omega
theorem outW_length (h : List Nat) (i : Nat) (hl : h.length = 8) (hi : i ≤ 8) : (outW h i).length = 32 := by
  unfold outW
  rw [List.length_append, flat_len, List.length_take, List.length_replicate]
  omega
theorem outW_zero (h : List Nat) : outW h 0 = List.replicate 32 0 := by simp [outW]
theorem outW_end (h : List Nat) (hl : h.length = 8) : outW h 8 = h.flatMap (be 4) := by
  unfold outW
  rw [List.take_of_length_le (by omega), Nat.sub_self]
  simp
theorem outW_step (h : List Nat) (i : Nat) (hl : h.length = 8) (hi : i < 8) : splice (outW h i) (4 * i) (be 4 (h.getD i 0)) = outW h (i + 1) := by
  have g : h.getD i 0 = h[i] := by rw [List.getD_eq_getElem?_getD, List.getElem?_eq_getElem (by omega), Option.getD_some]
  have hf : ((h.take i).flatMap (be 4)).length = 4 * i := by rw [flat_len, List.length_take]; omega
  unfold outW splice
  rw [List.take_append_of_le_length (by omega), List.take_of_length_le (by omega), be_length, List.drop_append, List.drop_eq_nil_of_le (by omega), List.nil_append, hf, show 4 * i + 4 - 4 * i = 4 by omega, List.drop_replicate]
  rw [List.take_succ_eq_append_getElem (by omega), List.flatMap_append, List.append_assoc, g, show 32 - 4 * i - 4 = 32 - 4 * (i + 1) by omega]
  simp
/-- One by one. -/
def outB (h : List Nat) (i : Nat) : List UInt8 := (h.flatMap (be 4)).take i ++ List.replicate (32 - i) 0
theorem outB_length (h : List Nat) (i : Nat) (hl : h.length = 8) (hi : i ≤ 32) : (outB h i).length = 32 := by
  unfold outB
  rw [List.length_append, List.length_take, flat_len, List.length_replicate]
  omega
theorem outB_zero (h : List Nat) : outB h 0 = List.replicate 32 0 := by simp [outB]
theorem outB_end (h : List Nat) (hl : h.length = 8) : outB h 32 = h.flatMap (be 4) := by
  unfold outB
  rw [List.take_of_length_le (by rw [flat_len]; omega), Nat.sub_self]
  simp
theorem be4_get (v r : Nat) (hr : r < 4) : (be 4 v)[r]? = some (UInt8.ofNat (v / 2 ^ (24 - 8 * r))) := by
  rcases (by omega : r = 0 ∨ r = 1 ∨ r = 2 ∨ r = 3) with rfl | rfl | rfl | rfl <;>
    simp [be, Nat.div_div_eq_div_mul]
theorem flat_get (h : List Nat) (q r : Nat) (hq : q < h.length) (hr : r < 4) : (h.flatMap (be 4))[4 * q + r]? = some (UInt8.ofNat (h.getD q 0 / 2 ^ (24 - 8 * r))) := by
  induction h generalizing q with
  | nil => simp at hq
  | cons a h ih =>
    rw [List.flatMap_cons]
    cases q with
    | zero =>
      rw [Nat.mul_zero, Nat.zero_add, List.getElem?_append_left (by rw [be_length]; exact hr), be4_get _ _ hr]
      rfl
    | succ q =>
      rw [List.getElem?_append_right (by rw [be_length]; omega), be_length, show 4 * (q + 1) + r - 4 = 4 * q + r by omega, ih q (by simpa using hq)]
      rfl
theorem outB_step (h : List Nat) (i : Nat) (hl : h.length = 8) (hi : i < 32) : (outB h i).set i (UInt8.ofNat (h.getD (i / 4) 0 / 2 ^ (24 - 8 * (i % 4)))) = outB h (i + 1) := by
  have hf : (h.flatMap (be 4)).length = 32 := by rw [flat_len, hl]
  have hg := flat_get h (i / 4) (i % 4) (by omega) (by omega)
  rw [show 4 * (i / 4) + i % 4 = i by omega] at hg
  have hi' : i < (h.flatMap (be 4)).length := by omega
  rw [List.getElem?_eq_getElem hi'] at hg
  have ht : (List.take i (h.flatMap (be 4))).length = i := by rw [List.length_take]; omega
  unfold outB
  rw [List.set_append_right _ _ (by omega), ht, Nat.sub_self, show 32 - i = (32 - (i + 1)) + 1 by omega, List.replicate_succ, List.set_cons_zero, List.take_succ_eq_append_getElem hi', List.append_assoc, Option.some.inj hg]
  rfl
end Go.Proofs.Ytehbahobkgoapaa
