/- SHA-256 as plain functions on numbers below 4294967296, so laid that closed digests are evaluated at once. -/
import Derived.Test.YtehbahobkgoapaaPn
namespace Go.Proofs.Ytehbahobkgoapaa
set_option linter.unusedSimpArgs false
set_option linter.unusedVariables false

/-- A number is worked out ahead of what is done with it. -/
def fz {α : Type} (n : Nat) (k : Nat → α) : α := match n with
  | 0 => k 0
  | n + 1 => k (n + 1)
theorem fz_eq {α : Type} (n : Nat) (k : Nat → α) : fz n k = k n := by cases n <;> rfl

def shaK : List Nat := [0x428a2f98, 0x71374491, 0xb5c0fbcf, 0xe9b5dba5, 0x3956c25b, 0x59f111f1, 0x923f82a4, 0xab1c5ed5,
    0xd807aa98, 0x12835b01, 0x243185be, 0x550c7dc3, 0x72be5d74, 0x80deb1fe, 0x9bdc06a7, 0xc19bf174,
    0xe49b69c1, 0xefbe4786, 0x0fc19dc6, 0x240ca1cc, 0x2de92c6f, 0x4a7484aa, 0x5cb0a9dc, 0x76f988da,
    0x983e5152, 0xa831c66d, 0xb00327c8, 0xbf597fc7, 0xc6e00bf3, 0xd5a79147, 0x06ca6351, 0x14292967,
    0x27b70a85, 0x2e1b2138, 0x4d2c6dfc, 0x53380d13, 0x650a7354, 0x766a0abb, 0x81c2c92e, 0x92722c85,
    0xa2bfe8a1, 0xa81a664b, 0xc24b8b70, 0xc76c51a3, 0xd192e819, 0xd6990624, 0xf40e3585, 0x106aa070,
    0x19a4c116, 0x1e376c08, 0x2748774c, 0x34b0bcb5, 0x391c0cb3, 0x4ed8aa4a, 0x5b9cca4f, 0x682e6ff3,
    0x748f82ee, 0x78a5636f, 0x84c87814, 0x8cc70208, 0x90befffa, 0xa4506ceb, 0xbef9a3f7, 0xc67178f2]
def shaH : List Nat := [0x6a09e667, 0xbb67ae85, 0x3c6ef372, 0xa54ff53a, 0x510e527f, 0x9b05688c, 0x1f83d9ab, 0x5be0cd19]
theorem shaK_length : shaK.length = 64 := rfl
theorem shaK_lt : ∀ x ∈ shaK, x < 4294967296 := by decide +kernel
theorem shaH_lt : ∀ x ∈ shaH, x < 4294967296 := by decide +kernel

def ad (a b : Nat) : Nat := (a + b) % 4294967296
theorem ad_lt (a b : Nat) : ad a b < 4294967296 := Nat.mod_lt _ (by omega)
def rotr (x n : Nat) : Nat := Nat.lor (x / 2 ^ n) (x * 2 ^ (32 - n) % 4294967296)
theorem rotr_lt (x n : Nat) (hx : x < 4294967296) : rotr x n < 4294967296 :=
  Nat.or_lt_two_pow (n := 32) (Nat.lt_of_le_of_lt (Nat.div_le_self _ _) hx) (Nat.mod_lt _ (by omega))
theorem xor_lt32 {a b : Nat} (ha : a < 4294967296) (hb : b < 4294967296) : a ^^^ b < 4294967296 := Nat.xor_lt_two_pow (n := 32) ha hb
theorem and_lt32 {a b : Nat} (ha : a < 4294967296) : a &&& b < 4294967296 := Nat.lt_of_le_of_lt Nat.and_le_left ha
theorem div_lt32 {a : Nat} (n : Nat) (ha : a < 4294967296) : a / n < 4294967296 := Nat.lt_of_le_of_lt (Nat.div_le_self _ _) ha
def sg0 (x : Nat) : Nat := rotr x 7 ^^^ rotr x 18 ^^^ (x / 8)
def sg1 (x : Nat) : Nat := rotr x 17 ^^^ rotr x 19 ^^^ (x / 1024)
def bs1 (x : Nat) : Nat := rotr x 6 ^^^ rotr x 11 ^^^ rotr x 25
def bs0 (x : Nat) : Nat := rotr x 2 ^^^ rotr x 13 ^^^ rotr x 22
def chx (e f g : Nat) : Nat := (e &&& f) ^^^ ((4294967295 - e) &&& g)
def maj (a b c : Nat) : Nat := (a &&& b) ^^^ (a &&& c) ^^^ (b &&& c)
def one (e f g h k w : Nat) : Nat := ad (ad (ad (ad h (bs1 e)) (chx e f g)) k) w
def two (a b c : Nat) : Nat := ad (bs0 a) (maj a b c)

/-- The rounds. -/
def rnds : List Nat → List Nat → Nat → Nat → Nat → Nat → Nat → Nat → Nat → Nat → List Nat
  | k :: ks, w :: ws, a, b, c, d, e, f, g, h =>
    fz (one e f g h k w) fun x => fz (ad x (two a b c)) fun y => fz (ad d x) fun z => rnds ks ws y a b c z e f g
  | _, _, a, b, c, d, e, f, g, h => [a, b, c, d, e, f, g, h]
theorem rnds_cons (k w : Nat) (ks ws : List Nat) (a b c d e f g h : Nat) : rnds (k :: ks) (w :: ws) a b c d e f g h = rnds ks ws (ad (one e f g h k w) (two a b c)) a b c (ad d (one e f g h k w)) e f g := by
  rw [rnds]; simp only [fz_eq]
theorem rnds_at (ws : List Nat) (hw : ws.length = 64) (t : Nat) (ht : t < 64) (a b c d e f g h : Nat) :
    rnds (shaK.drop t) (ws.drop t) a b c d e f g h = rnds (shaK.drop (t + 1)) (ws.drop (t + 1)) (ad (one e f g h (shaK.getD t 0) (ws.getD t 0)) (two a b c)) a b c (ad d (one e f g h (shaK.getD t 0) (ws.getD t 0))) e f g := by
  have h1 : t < shaK.length := by rw [shaK_length]; exact ht
  have h2 : t < ws.length := by omega
  have g1 : shaK.getD t 0 = shaK[t] := by rw [List.getD_eq_getElem?_getD, List.getElem?_eq_getElem h1, Option.getD_some]
  have g2 : ws.getD t 0 = ws[t] := by rw [List.getD_eq_getElem?_getD, List.getElem?_eq_getElem h2, Option.getD_some]
  rw [List.drop_eq_getElem_cons h1, List.drop_eq_getElem_cons h2, rnds_cons, g1, g2]
theorem rnds_end (ws : List Nat) (hw : ws.length = 64) (a b c d e f g h : Nat) : rnds (shaK.drop 64) (ws.drop 64) a b c d e f g h = [a, b, c, d, e, f, g, h] := by
  rw [List.drop_eq_nil_of_le (by rw [shaK_length]; omega)]
  rfl

/-- The next word of a block's words. -/
def nw (w : List Nat) : Nat := ad (ad (ad (sg1 (w.getD (w.length - 2) 0)) (w.getD (w.length - 7) 0)) (sg0 (w.getD (w.length - 15) 0))) (w.getD (w.length - 16) 0)
def ext : Nat → List Nat → List Nat
  | 0, w => w
  | k + 1, w => fz (nw w) fun n => ext k (w ++ [n])
theorem ext_succ (k : Nat) (w : List Nat) : ext (k + 1) w = ext k (w ++ [nw w]) := by rw [ext, fz_eq]
theorem ext_length (k : Nat) (w : List Nat) : (ext k w).length = w.length + k := by
  induction k generalizing w with
  | zero => rfl
  | succ k ih => rw [ext_succ, ih]; simp; omega
theorem ext_lt (k : Nat) (w : List Nat) (h : ∀ x ∈ w, x < 4294967296) : ∀ x ∈ ext k w, x < 4294967296 := by
  induction k generalizing w with
  | zero => exact h
  | succ k ih =>
    rw [ext_succ]
    apply ih
    intro x hx
    rcases List.mem_append.1 hx with hx | hx
    · exact h x hx
    · rw [List.mem_singleton.1 hx]; exact ad_lt _ _

/-- Four bytes as a word. -/
def wordOf (b : List UInt8) (i : Nat) : Nat := (b.getD (4 * i) 0).toNat * 16777216 + (b.getD (4 * i + 1) 0).toNat * 65536 + (b.getD (4 * i + 2) 0).toNat * 256 + (b.getD (4 * i + 3) 0).toNat
theorem wordOf_lt (b : List UInt8) (i : Nat) : wordOf b i < 4294967296 := by
  unfold wordOf
  have h0 := (b.getD (4 * i) 0).toNat_lt
  have h1 := (b.getD (4 * i + 1) 0).toNat_lt
  have h2 := (b.getD (4 * i + 2) 0).toNat_lt
  have h3 := (b.getD (4 * i + 3) 0).toNat_lt
  omega
def first : Nat → List UInt8 → List Nat
  | 0, _ => []
  | i + 1, b => first i b ++ [wordOf b i]
theorem first_length (i : Nat) (b : List UInt8) : (first i b).length = i := by induction i <;> simp [first, *]
theorem first_lt (i : Nat) (b : List UInt8) : ∀ x ∈ first i b, x < 4294967296 := by
  induction i with
  | zero => intro x hx; simp [first] at hx
  | succ i ih =>
    intro x hx
    rcases List.mem_append.1 hx with hx | hx
    · exact ih x hx
    · rw [List.mem_singleton.1 hx]; exact wordOf_lt b i
def forced : List Nat → List Nat → List Nat
  | [], r => r
  | x :: l, r => fz x fun x => forced l (r ++ [x])
theorem forced_eq (l r : List Nat) : forced l r = r ++ l := by
  induction l generalizing r with
  | nil => simp [forced]
  | cons x l ih => rw [forced, fz_eq, ih]; simp
/-- The 64 words of a block. -/
def sched (b : List UInt8) : List Nat := ext 48 (forced (first 16 b) [])
theorem sched_eq (b : List UInt8) : sched b = ext 48 (first 16 b) := by unfold sched; rw [forced_eq]; rfl
theorem sched_length (b : List UInt8) : (sched b).length = 64 := by rw [sched_eq, ext_length, first_length]
theorem sched_lt (b : List UInt8) : ∀ x ∈ sched b, x < 4294967296 := by rw [sched_eq]; exact ext_lt _ _ (first_lt _ _)

/-- The block step. -/
def step (h : List Nat) (b : List UInt8) : List Nat :=
  match h with
  | [a0, a1, a2, a3, a4, a5, a6, a7] => forced (List.zipWith ad h (rnds shaK (sched b) a0 a1 a2 a3 a4 a5 a6 a7)) []
  | _ => [0, 0, 0, 0, 0, 0, 0, 0]
theorem rnds_length (ks ws : List Nat) (a b c d e f g h : Nat) : (rnds ks ws a b c d e f g h).length = 8 := by
  induction ks generalizing ws a b c d e f g h with
  | nil => rfl
  | cons k ks ih =>
    cases ws with
    | nil => rfl
    | cons w ws => rw [rnds_cons]; exact ih _ _ _ _ _ _ _ _ _
theorem eight {h : List Nat} (hl : h.length = 8) : ∃ a0 a1 a2 a3 a4 a5 a6 a7, h = [a0, a1, a2, a3, a4, a5, a6, a7] := by
  match h, hl with
  | [a0, a1, a2, a3, a4, a5, a6, a7], _ => exact ⟨_, _, _, _, _, _, _, _, rfl⟩
theorem step_eq (a0 a1 a2 a3 a4 a5 a6 a7 : Nat) (b : List UInt8) : step [a0, a1, a2, a3, a4, a5, a6, a7] b = List.zipWith ad [a0, a1, a2, a3, a4, a5, a6, a7] (rnds shaK (sched b) a0 a1 a2 a3 a4 a5 a6 a7) := by
  rw [step, forced_eq, List.nil_append]
theorem step_other {h : List Nat} {b : List UInt8} (hh : h.length ≠ 8) : step h b = [0, 0, 0, 0, 0, 0, 0, 0] := by
  rw [step]
  intro a0 a1 a2 a3 a4 a5 a6 a7 e
  subst e
  exact hh rfl
theorem step_length (h : List Nat) (b : List UInt8) : (step h b).length = 8 := by
  by_cases hh : h.length = 8
  · obtain ⟨a0, a1, a2, a3, a4, a5, a6, a7, rfl⟩ := eight hh
    rw [step_eq, List.length_zipWith, rnds_length]
    rfl
  · rw [step_other hh]; rfl
theorem zip_lt (l m : List Nat) : ∀ x ∈ List.zipWith ad l m, x < 4294967296 := by
  intro x hx
  obtain ⟨i, hi, rfl⟩ := List.mem_iff_getElem.1 hx
  rw [List.getElem_zipWith]
  exact ad_lt _ _
theorem step_lt (h : List Nat) (b : List UInt8) : ∀ x ∈ step h b, x < 4294967296 := by
  by_cases hh : h.length = 8
  · obtain ⟨a0, a1, a2, a3, a4, a5, a6, a7, rfl⟩ := eight hh
    rw [step_eq]
    exact zip_lt _ _
  · rw [step_other hh]; decide

/-- n blocks. -/
def blocks : Nat → List Nat → List UInt8 → List Nat
  | 0, h, _ => h
  | n + 1, h, l => blocks n (step h (l.take 64)) (l.drop 64)
theorem blocks_add (a b : Nat) (h : List Nat) (l : List UInt8) : blocks (a + b) h l = blocks b (blocks a h l) (l.drop (64 * a)) := by
  induction a generalizing h l with
  | zero => simp [blocks]
  | succ a ih =>
    rw [show a + 1 + b = (a + b) + 1 by omega, blocks, ih, blocks, List.drop_drop]
    congr 2; omega
theorem blocks_append (n : Nat) (h : List Nat) (l r : List UInt8) (hn : 64 * n ≤ l.length) : blocks n h (l ++ r) = blocks n h l := by
  induction n generalizing h l with
  | zero => rfl
  | succ n ih =>
    rw [blocks, blocks, List.take_append_of_le_length (by omega), List.drop_append_of_le_length (by omega), ih _ _ (by simp; omega)]
theorem blocks_length (n : Nat) (h : List Nat) (l : List UInt8) (hh : h.length = 8) : (blocks n h l).length = 8 := by
  induction n generalizing h l with
  | zero => exact hh
  | succ n ih => rw [blocks]; exact ih _ _ (step_length _ _)
theorem blocks_lt (n : Nat) (h : List Nat) (l : List UInt8) (hh : ∀ x ∈ h, x < 4294967296) : ∀ x ∈ blocks n h l, x < 4294967296 := by
  induction n generalizing h l with
  | zero => exact hh
  | succ n ih => rw [blocks]; exact ih _ _ (step_lt _ _)
/-- The words behind all whole blocks of a text. -/
def hOf (m : List UInt8) : List Nat := blocks (m.length / 64) shaH m
/-- What stands behind the whole blocks. -/
def tailOf (m : List UInt8) : List UInt8 := m.drop (64 * (m.length / 64))
theorem hOf_length (m : List UInt8) : (hOf m).length = 8 := blocks_length _ _ _ rfl
theorem hOf_lt (m : List UInt8) : ∀ x ∈ hOf m, x < 4294967296 := blocks_lt _ _ _ shaH_lt
theorem tailOf_length (m : List UInt8) : (tailOf m).length = m.length % 64 := by simp [tailOf]; omega
/-- Few bytes more: no block ends. -/
theorem more_few (m x : List UInt8) (h : m.length % 64 + x.length < 64) : hOf (m ++ x) = hOf m ∧ tailOf (m ++ x) = tailOf m ++ x := by
  have e : (m ++ x).length / 64 = m.length / 64 := by simp; omega
  unfold hOf tailOf
  rw [e, blocks_append _ _ _ _ (by omega), List.drop_append_of_le_length (by omega)]
  exact ⟨rfl, rfl⟩
/-- As many bytes as end the block. -/
theorem more_full (m x : List UInt8) (h : m.length % 64 + x.length = 64) : hOf (m ++ x) = step (hOf m) (tailOf m ++ x) ∧ tailOf (m ++ x) = [] := by
  have e : (m ++ x).length / 64 = m.length / 64 + 1 := by simp; omega
  constructor
  · unfold hOf tailOf
    rw [e, blocks_add, blocks_append _ _ _ _ (by omega), List.drop_append_of_le_length (by omega)]
    show step _ (List.take 64 _) = _
    rw [List.take_of_length_le (by simp; omega)]
  · unfold tailOf
    rw [e, List.drop_eq_nil_of_le (by simp; omega)]

/-- How many zeros a text of n bytes gets. -/
def padz (n : Nat) : Nat := (119 - n % 64) % 64
def pad (m : List UInt8) : List UInt8 := m ++ (128 :: (List.replicate (padz m.length) 0 ++ be 8 (8 * m.length)))
/-- The digest. -/
def shaL (m : List UInt8) : List UInt8 := (hOf (pad m)).flatMap (be 4)
theorem shaL_length (m : List UInt8) : (shaL m).length = 32 := by
  unfold shaL
  obtain ⟨a0, a1, a2, a3, a4, a5, a6, a7, e⟩ := eight (hOf_length (pad m))
  rw [e]
  simp [be_length]
set_option maxRecDepth 100000 in
theorem sha_abc : shaL [97, 98, 99] = [0xba, 0x78, 0x16, 0xbf, 0x8f, 0x01, 0xcf, 0xea, 0x41, 0x41, 0x40, 0xde, 0x5d, 0xae, 0x22, 0x23, 0xb0, 0x03, 0x61, 0xa3, 0x96, 0x17, 0x7a, 0x9c, 0xb4, 0x10, 0xff, 0x61, 0xf2, 0x00, 0x15, 0xad] := by decide +kernel
end Go.Proofs.Ytehbahobkgoapaa
