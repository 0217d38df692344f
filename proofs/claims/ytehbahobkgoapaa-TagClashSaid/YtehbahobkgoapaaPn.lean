/- Keys as numbers: plain facts on lists of 32 bytes. -/
import Derived.Test.YtehbahobkgoapaaOc
import Derived.Lib.Bytealg
namespace Go.Proofs.Ytehbahobkgoapaa
open Go Go.RowKit
set_option linter.unusedSimpArgs false
set_option linter.unusedVariables false

/-- The number of some bytes, the highest first. -/
def nOf (l : List UInt8) : Nat := l.foldl (fun a x => 256 * a + x.toNat) 0
theorem foldl_nOf (l : List UInt8) (a : Nat) : l.foldl (fun a x => 256 * a + x.toNat) a = a * 256 ^ l.length + nOf l := by
  induction l generalizing a with
  | nil => simp [nOf]
  | cons x l ih =>
    have h1 := ih (256 * a + x.toNat)
    have h2 := ih (256 * 0 + x.toNat)
    unfold nOf at h1 h2 ⊢
    simp only [List.foldl_cons, List.length_cons]
    rw [h1, h2, Nat.pow_succ]
    simp only [Nat.add_mul, Nat.mul_zero, Nat.zero_add, Nat.zero_mul]
    have : 256 * a * 256 ^ l.length = a * (256 ^ l.length * 256) := by
      rw [Nat.mul_comm 256 a, Nat.mul_assoc, Nat.mul_comm 256]
    omega
theorem nOf_append (l m : List UInt8) : nOf (l ++ m) = nOf l * 256 ^ m.length + nOf m := by
  unfold nOf
  rw [List.foldl_append, foldl_nOf]
  rfl
theorem nOf_cons (x : UInt8) (l : List UInt8) : nOf (x :: l) = x.toNat * 256 ^ l.length + nOf l := by
  have := nOf_append [x] l
  simpa [nOf] using this
theorem nOf_lt (l : List UInt8) : nOf l < 256 ^ l.length := by
  induction l with
  | nil => simp [nOf]
  | cons x l ih =>
    rw [nOf_cons, List.length_cons, Nat.pow_succ]
    have hx := x.toNat_lt
    have h1 : x.toNat * 256 ^ l.length ≤ 255 * 256 ^ l.length := Nat.mul_le_mul_right _ (by omega)
    omega
theorem be_nOf (l : List UInt8) : be l.length (nOf l) = l := by
  induction l with
  | nil => rfl
  | cons x l ih =>
    rw [List.length_cons, be_cons, nOf_cons]
    have hp : 0 < 256 ^ l.length := Nat.pow_pos (by omega)
    have h1 : (x.toNat * 256 ^ l.length + nOf l) / 256 ^ l.length = x.toNat := by
      rw [Nat.mul_comm, Nat.mul_add_div hp, Nat.div_eq_of_lt (nOf_lt l)]; omega
    have h2 : be l.length (x.toNat * 256 ^ l.length + nOf l) = be l.length (nOf l) := by
      have : ∀ n a b, be n (a * 256 ^ n + b) = be n b := by
        intro n
        induction n with
        | zero => intro a b; rfl
        | succ n ih =>
          intro a b
          rw [be, be]
          have e1 : (a * 256 ^ (n + 1) + b) / 256 = a * 256 ^ n + b / 256 := by
            rw [Nat.pow_succ, ← Nat.mul_assoc, Nat.mul_comm _ 256, Nat.mul_add_div (by omega)]
          have e2 : UInt8.ofNat (a * 256 ^ (n + 1) + b) = UInt8.ofNat b := by
            apply UInt8.toNat_inj.1
            rw [UInt8.toNat_ofNat', UInt8.toNat_ofNat', Nat.pow_succ, ← Nat.mul_assoc]
            omega
          rw [e1, e2, ih]
      exact this _ _ _
    rw [h1, h2, ih, UInt8.ofNat_toNat]
theorem nOf_be (n v : Nat) : nOf (be n v) = v % 256 ^ n := by
  induction n generalizing v with
  | zero => simp [be, nOf, Nat.mod_one]
  | succ n ih =>
    rw [be, nOf_append, ih]
    have : nOf [UInt8.ofNat v] = v % 256 := by simp [nOf, UInt8.toNat_ofNat']
    rw [this, List.length_singleton, Nat.pow_one, Nat.pow_succ, Nat.mul_comm (256 ^ n) 256, Nat.mod_mul]
    omega
theorem nOf_inj {l m : List UInt8} (h : l.length = m.length) (e : nOf l = nOf m) : l = m := by
  rw [← be_nOf l, ← be_nOf m, h, e]

/-- Bit d of a key. -/
def tb (p : List UInt8) (d : Nat) : Bool := ((p.getD (d / 8) 0).toNat).testBit (7 - d % 8)
theorem getD_be (n v i : Nat) (h : i < n) : (be n v).getD i 0 = UInt8.ofNat (v / 256 ^ (n - 1 - i)) := by
  induction n generalizing i with
  | zero => omega
  | succ n ih =>
    rw [be_cons]
    cases i with
    | zero => simp
    | succ i =>
      rw [List.getD_cons_succ, ih i (by omega)]
      congr 3
      omega
theorem tb_nOf (p : List UInt8) (hp : p.length = 32) (d : Nat) (hd : d < 256) : tb p d = (nOf p).testBit (255 - d) := by
  have e := be_nOf p
  rw [hp] at e
  have h1 : p.getD (d / 8) 0 = UInt8.ofNat (nOf p / 256 ^ (31 - d / 8)) := by
    have := getD_be 32 (nOf p) (d / 8) (by omega)
    rwa [e] at this
  have h2 : (256 : Nat) ^ (31 - d / 8) = 2 ^ (8 * (31 - d / 8)) := by rw [Nat.pow_mul]
  have h3 : (UInt8.ofNat (nOf p / 256 ^ (31 - d / 8))).toNat = nOf p / 2 ^ (8 * (31 - d / 8)) % 2 ^ 8 := by rw [UInt8.toNat_ofNat', h2]
  have h4 : decide (7 - d % 8 < 8) = true := by simp; omega
  have h5 : 7 - d % 8 + 8 * (31 - d / 8) = 255 - d := by omega
  unfold tb
  rw [h1, h3, Nat.testBit_mod_two_pow, Nat.testBit_div_two_pow, h4, h5, Bool.true_and]
theorem nOf_lt32 {p : List UInt8} (hp : p.length = 32) : nOf p < 2 ^ 256 := by
  have := nOf_lt p
  rw [hp] at this
  rwa [show (256 : Nat) ^ 32 = 2 ^ 256 by decide +kernel] at this
theorem key_ext {p q : List UInt8} (hp : p.length = 32) (hq : q.length = 32) (h : ∀ d, d < 256 → tb p d = tb q d) : p = q := by
  apply nOf_inj (by omega)
  apply Nat.eq_of_testBit_eq
  intro j
  by_cases hj : j < 256
  · have := h (255 - j) (by omega)
    rw [tb_nOf p hp _ (by omega), tb_nOf q hq _ (by omega)] at this
    rwa [show 255 - (255 - j) = j by omega] at this
  · have hle : 2 ^ 256 ≤ 2 ^ j := Nat.pow_le_pow_right (by omega) (by omega)
    rw [Nat.testBit_lt_two_pow (Nat.lt_of_lt_of_le (nOf_lt32 hp) hle), Nat.testBit_lt_two_pow (Nat.lt_of_lt_of_le (nOf_lt32 hq) hle)]
/-- The key of a number. -/
theorem key_of {p : List UInt8} (hp : p.length = 32) {n : Nat} (hn : n < 2 ^ 256) (h : ∀ d, d < 256 → tb p d = n.testBit (255 - d)) : p = be 32 n := by
  apply key_ext hp (be_length _ _)
  intro d hd
  rw [h d hd, tb_nOf _ (be_length _ _) d hd, nOf_be, show (256 : Nat) ^ 32 = 2 ^ 256 by decide +kernel, Nat.mod_eq_of_lt hn]
theorem nOf_key {n : Nat} (hn : n < 2 ^ 256) : nOf (be 32 n) = n := by
  rw [nOf_be, show (256 : Nat) ^ 32 = 2 ^ 256 by decide +kernel, Nat.mod_eq_of_lt hn]

/-- Bit d of a key, as a number. -/
def bitZ (p : List UInt8) (d : Int) : Int := if 0 ≤ d ∧ d < 256 then ((tb p d.toNat).toNat : Int) else -1

/-- The first place at which two keys are unlike; 256 where there is none. -/
def comm (p q : List UInt8) : Nat := (List.range 256).findIdx fun d => tb p d != tb q d
theorem comm_le (p q : List UInt8) : comm p q ≤ 256 := by
  have := List.findIdx_le_length (xs := List.range 256) (p := fun d => tb p d != tb q d)
  simpa [comm] using this
theorem comm_like (p q : List UInt8) (d : Nat) (h : d < comm p q) : tb p d = tb q d := by
  have h1 := List.not_of_lt_findIdx (p := fun d => tb p d != tb q d) (xs := List.range 256) h
  simpa using h1
theorem comm_unlike (p q : List UInt8) (h : comm p q < 256) : tb p (comm p q) ≠ tb q (comm p q) := by
  have h1 := List.findIdx_getElem (p := fun d => tb p d != tb q d) (xs := List.range 256) (w := by simpa [comm] using h)
  have h2 : (List.range 256)[(List.range 256).findIdx fun d => tb p d != tb q d]'(by simpa [comm] using h) = comm p q := by simp [comm]
  rw [h2] at h1
  simpa using h1
theorem comm_of (p q : List UInt8) (c : Nat) (h : c ≤ 256) (h1 : ∀ d, d < c → tb p d = tb q d) (h2 : c < 256 → tb p c ≠ tb q c) : comm p q = c := by
  rcases Nat.lt_trichotomy (comm p q) c with hlt | he | hgt
  · exact absurd (h1 _ hlt) (comm_unlike p q (by omega))
  · exact he
  · have := comm_le p q
    exact absurd (comm_like p q c hgt) (h2 (by omega))
theorem comm_symm (p q : List UInt8) : comm p q = comm q p :=
  comm_of p q _ (comm_le q p) (fun d h => (comm_like q p d h).symm) (fun h e => comm_unlike q p h e.symm)
theorem comm_self (p : List UInt8) : comm p p = 256 := comm_of p p 256 (by omega) (fun _ _ => rfl) (fun h => by omega)
theorem comm_all {p q : List UInt8} (hp : p.length = 32) (hq : q.length = 32) (h : comm p q = 256) : p = q := key_ext hp hq fun d hd => comm_like p q d (by omega)
theorem comm_ge {p q : List UInt8} (hp : p.length = 32) (hq : q.length = 32) (d : Nat) (hd : d ≤ 256) : d ≤ comm p q ↔ nOf p / 2 ^ (256 - d) = nOf q / 2 ^ (256 - d) := by
  constructor
  · intro h
    apply Nat.eq_of_testBit_eq
    intro j
    rw [Nat.testBit_div_two_pow, Nat.testBit_div_two_pow, Nat.add_comm j]
    by_cases hj : 256 - d + j < 256
    · have := comm_like p q (255 - (256 - d + j)) (by omega)
      rw [tb_nOf p hp _ (by omega), tb_nOf q hq _ (by omega)] at this
      rwa [show 255 - (255 - (256 - d + j)) = 256 - d + j by omega] at this
    · have hle : 2 ^ 256 ≤ 2 ^ (256 - d + j) := Nat.pow_le_pow_right (by omega) (by omega)
      rw [Nat.testBit_lt_two_pow (Nat.lt_of_lt_of_le (nOf_lt32 hp) hle), Nat.testBit_lt_two_pow (Nat.lt_of_lt_of_le (nOf_lt32 hq) hle)]
  · intro h
    apply Nat.le_of_not_lt
    intro hlt
    have hc := comm_unlike p q (by omega)
    apply hc
    rw [tb_nOf p hp _ (by omega), tb_nOf q hq _ (by omega)]
    have e : ∀ n : Nat, n.testBit (255 - comm p q) = (n / 2 ^ (256 - d)).testBit (255 - comm p q - (256 - d)) := by
      intro n
      rw [Nat.testBit_div_two_pow]
      congr 1
      omega
    rw [e, e, h]

def cmpZ (a b : Nat) : Int := if a < b then -1 else if b < a then 1 else 0
theorem compare_nOf : ∀ (p q : List UInt8), p.length = q.length → Lib.compareBytes p q = cmpZ (nOf p) (nOf q)
  | [], [], _ => rfl
  | [], _ :: _, h => by simp at h
  | _ :: _, [], h => by simp at h
  | x :: l, y :: m, h => by
    have hl : l.length = m.length := by simpa using h
    rw [Lib.compareBytes, nOf_cons, nOf_cons, ← hl]
    have h1 := nOf_lt l
    have h2 := nOf_lt m
    rw [← hl] at h2
    by_cases hxy : x < y
    · rw [if_pos hxy]
      have : x.toNat + 1 ≤ y.toNat := hxy
      have h3 : (x.toNat + 1) * 256 ^ l.length ≤ y.toNat * 256 ^ l.length := Nat.mul_le_mul_right _ this
      rw [Nat.add_mul] at h3
      unfold cmpZ
      rw [if_pos (by omega)]
    · rw [if_neg hxy]
      by_cases hyx : y < x
      · rw [if_pos hyx]
        have : y.toNat + 1 ≤ x.toNat := hyx
        have h3 : (y.toNat + 1) * 256 ^ l.length ≤ x.toNat * 256 ^ l.length := Nat.mul_le_mul_right _ this
        rw [Nat.add_mul] at h3
        unfold cmpZ
        rw [if_neg (by omega), if_pos (by omega)]
      · rw [if_neg hyx]
        have : x.toNat = y.toNat := by
          have a1 : ¬ x.toNat < y.toNat := hxy
          have a2 : ¬ y.toNat < x.toNat := hyx
          omega
        rw [this, compare_nOf l m hl]
        unfold cmpZ
        by_cases ha : nOf l < nOf m
        · rw [if_pos ha, if_pos (by omega)]
        · by_cases hb : nOf m < nOf l
          · rw [if_neg ha, if_pos hb, if_neg (by omega), if_pos (by omega)]
          · rw [if_neg ha, if_neg hb, if_neg (by omega), if_neg (by omega)]
theorem cmpZ_neg (a b : Nat) : cmpZ a b = - cmpZ b a := by
  unfold cmpZ; split <;> split <;> first | rfl | omega

/-- A number's first d bits of 256, all others as said. -/
def fillN (n d : Nat) (b : Bool) : Nat := 2 ^ (256 - d) * (n / 2 ^ (256 - d)) + (if b then 2 ^ (256 - d) - 1 else 0)
theorem fillN_rest (d : Nat) (b : Bool) : (if b then 2 ^ (256 - d) - 1 else 0) < 2 ^ (256 - d) := by
  have : 0 < 2 ^ (256 - d) := Nat.pow_pos (by omega)
  split <;> omega
theorem fillN_div (n d : Nat) (b : Bool) : fillN n d b / 2 ^ (256 - d) = n / 2 ^ (256 - d) := by
  unfold fillN
  rw [Nat.mul_add_div (Nat.pow_pos (by omega)), Nat.div_eq_of_lt (fillN_rest d b)]; omega
theorem fillN_lt (n d : Nat) (b : Bool) (hn : n < 2 ^ 256) (hd : d ≤ 256) : fillN n d b < 2 ^ 256 := by
  have h1 : fillN n d b / 2 ^ (256 - d) < 2 ^ d := by
    rw [fillN_div]
    apply Nat.div_lt_of_lt_mul
    rw [← Nat.pow_add, show 256 - d + d = 256 by omega]; exact hn
  have h2 := (Nat.div_lt_iff_lt_mul (Nat.pow_pos (n := 256 - d) (show 0 < 2 by omega))).1 h1
  rwa [← Nat.pow_add, show d + (256 - d) = 256 by omega] at h2
theorem fillN_bit (n d : Nat) (b : Bool) (e : Nat) (he : e < 256) (hd : d ≤ 256) : (fillN n d b).testBit (255 - e) = if e < d then n.testBit (255 - e) else b := by
  unfold fillN
  rw [Nat.testBit_two_pow_mul_add _ (fillN_rest d b)]
  by_cases h : e < d
  · rw [if_neg (by omega), if_pos h, Nat.testBit_div_two_pow]
    congr 1; omega
  · rw [if_pos (by omega), if_neg h]
    cases b
    · simp
    · simp only [if_true]
      rw [Nat.testBit_two_pow_sub_one]
      simp; omega
/-- A number's bit d of 256, turned. -/
def flipN (n d : Nat) : Nat := n ^^^ 2 ^ (255 - d)
theorem flipN_bit (n d e : Nat) (he : e < 256) (hd : d < 256) : (flipN n d).testBit (255 - e) = if e = d then !n.testBit (255 - e) else n.testBit (255 - e) := by
  unfold flipN
  rw [Nat.testBit_xor, Nat.testBit_two_pow]
  by_cases h : e = d
  · subst h; simp
  · rw [if_neg h]
    have : decide (255 - d = 255 - e) = false := by simp; omega
    rw [this]; simp
theorem flipN_lt (n d : Nat) (hn : n < 2 ^ 256) (hd : d < 256) : flipN n d < 2 ^ 256 :=
  Nat.xor_lt_two_pow hn (Nat.pow_lt_pow_right (by omega) (by omega))
end Go.Proofs.Ytehbahobkgoapaa
