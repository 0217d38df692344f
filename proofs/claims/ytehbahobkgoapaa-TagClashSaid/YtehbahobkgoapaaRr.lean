/- Contracts of octet's Reader and of the reference's. -/
import Derived.Test.YtehbahobkgoapaaPn
import Derived.Test.YtehbahobkgoapaaMi
import Derived.Lib.QuoteBits
namespace Go.Proofs.Ytehbahobkgoapaa
open Go Go.RowKit
set_option linter.unusedSimpArgs false
set_option linter.unusedVariables false

/-- Bytes that a reader may read on: none of them lies in a block of S. -/
structure Lft (S : Nat → Prop) (w : World) (A : Option Addr) (n c : Nat) (l : List UInt8) : Prop where
  len : l.length = n
  cap : n ≤ c
  max : c ≤ maxLen
  rd : Rd w A (bvs l)
  far : ∀ ad, A = some ad → ¬ S ad.block
theorem Lft.fr {S T : Nat → Prop} {w w' : World} {A : Option Addr} {n c : Nat} {l : List UInt8} (h : Lft S w A n c l) (hf : Fr T w w') (hT : ∀ k, T k → S k) : Lft S w' A n c l :=
  ⟨h.len, h.cap, h.max, h.rd.fr hf (fun ad e ht => h.far ad e (hT _ ht)), h.far⟩
theorem Lft.cut {S : Nat → Prop} {w : World} {A : Option Addr} {n c : Nat} {l : List UInt8} (h : Lft S w A n c l) (m : Nat) (hm : m ≤ n) : Lft S w (cutA A c m 1) (n - m) (c - m) (l.drop m) := by
  refine ⟨by simp [h.len], by have := h.cap; omega, by have := h.max; omega, ?_, ?_⟩
  · have h1 := h.rd.cutA (c := c) (lo := m) (z := 1) (by rw [bvs_length, h.len]; have := h.cap; omega) (n - m)
    have e : ((bvs l).drop (m * 1)).take (n - m) = bvs (l.drop m) := by
      rw [Nat.mul_one]
      unfold bvs
      rw [← List.map_drop, List.take_of_length_le (by simp [h.len])]
    rwa [e] at h1
  · intro ad e
    unfold cutA at e
    split at e
    · exact h.far ad e
    · cases A with
      | none => cases e
      | some a0 =>
        simp only [Option.map_some, Option.some.injEq] at e
        have hb : ad.block = a0.block := by rw [← e]; unfold Addr.add; split <;> rfl
        rw [hb]
        exact h.far a0 rfl

/-- A reader that New made: what is left; none where it is bad. -/
def RdP (S : Nat → Prop) (w : World) (g : Nat) : Option (List UInt8) → Prop
  | none => ∃ A n c, Blk w g 59 [.bool true, .bool true, .slice A n c]
  | some l => ∃ A n c, Blk w g 59 [.bool true, .bool false, .slice A n c] ∧ Lft S w A n c l
/-- The reference's reader. -/
def RfP (S : Nat → Prop) (w : World) (g : Nat) : Option (List UInt8) → Prop
  | none => Blk w g 55 [.slice none 0 0, .bool true]
  | some l => ∃ A n c, Blk w g 55 [.slice A n c, .bool false] ∧ Lft S w A n c l
theorem RdP.fr {S T : Nat → Prop} {w w' : World} {g : Nat} {st : Option (List UInt8)} (h : RdP S w g st) (hf : Fr T w w') (hg : ¬ T g) (hT : ∀ k, T k → S k) : RdP S w' g st := by
  cases st with
  | none => obtain ⟨A, n, c, hb⟩ := h; exact ⟨A, n, c, hb.fr hf hg⟩
  | some l => obtain ⟨A, n, c, hb, hl⟩ := h; exact ⟨A, n, c, hb.fr hf hg, hl.fr hf hT⟩
theorem RfP.fr {S T : Nat → Prop} {w w' : World} {g : Nat} {st : Option (List UInt8)} (h : RfP S w g st) (hf : Fr T w w') (hg : ¬ T g) (hT : ∀ k, T k → S k) : RfP S w' g st := by
  cases st with
  | none => exact Blk.fr h hf hg
  | some l => obtain ⟨A, n, c, hb, hl⟩ := h; exact ⟨A, n, c, hb.fr hf hg, hl.fr hf hT⟩

def takeL (st : Option (List UInt8)) (k : Int) : List UInt8 := match st with
  | none => []
  | some l => if 0 ≤ k ∧ k ≤ l.length then l.take k.toNat else []
def takeS (st : Option (List UInt8)) (k : Int) : Option (List UInt8) := match st with
  | none => none
  | some l => if 0 ≤ k ∧ k ≤ l.length then some (l.drop k.toNat) else none
def takeB (st : Option (List UInt8)) (k : Int) : Bool := match st with
  | none => false
  | some l => decide (0 ≤ k ∧ k ≤ l.length)

set_option maxRecDepth 100000 in
set_option maxHeartbeats 1000000 in
theorem take_any {S : Nat → Prop} (g : Nat) (st : Option (List UInt8)) (k : Int) (w : World) (h : RdP S w g st) (hS : S g) (hk : -9223372036854775808 ≤ k ∧ k ≤ 9223372036854775807) (hb : ∀ l, st = some l → l.length ≤ 140737488351232) :
    Calls Try.prog 52 #[.pointer (some ⟨g, 0, none⟩), .int .i64 k] w fun e w' => ∃ v, e = .returned v ∧ OwnB w' w.heap.size 5 v (takeL st k) ∧ RdP S w' g (takeS st k) ∧ Fr (· = g) w w' := by
  cases st with
  | none =>
    obtain ⟨A, n, c, hg⟩ := h
    have hc0 : w.cell? ⟨g, 0, none⟩ = some (.bool true) := by rw [hg.cell]; rfl
    have hc1 : w.cell? ⟨g, 1, none⟩ = some (.bool true) := by rw [hg.cell]; rfl
    go_enter Try.func52, Try.ntmps52
    go_wp2
    go_ret
    exact ⟨_, rfl, OwnB.nil _ _ _, ⟨A, n, c, hg⟩, Fr.refl _ _⟩
  | some l =>
    obtain ⟨A, n, c, hg, hl⟩ := h
    have hc0 : w.cell? ⟨g, 0, none⟩ = some (.bool true) := by rw [hg.cell]; rfl
    have hc1 : w.cell? ⟨g, 1, none⟩ = some (.bool false) := by rw [hg.cell]; rfl
    have hc2 : w.cell? ⟨g, 2, none⟩ = some (.slice A n c) := by rw [hg.cell]; rfl
    have hf1 := hg.free 1
    have hf2 := hg.free 2
    have hglt := hg.lt
    have hn : n ≤ 140737488351232 := by rw [← hl.len]; exact hb l rfl
    have HL := Lib.hid hl.len
    by_cases hin : 0 ≤ k ∧ k ≤ l.length
    · have e1 : takeL (some l) k = l.take k.toNat := by simp only [takeL]; rw [if_pos hin]
      have e2 : takeS (some l) k = some (l.drop k.toNat) := by simp only [takeS]; rw [if_pos hin]
      rw [e1, e2]
      clear e1 e2
      obtain ⟨m, rfl⟩ := Int.eq_ofNat_of_zero_le hin.1
      rw [Int.toNat_natCast]
      have hm : m ≤ n := by rw [← hl.len]; omega
      clear hin
      have htl : Hid ((l.take m).length = m) := by show _ = _; simp [hl.len]; omega
      have hrd : Rd w A (bvs (l.take m)) := by
        have := hl.rd.take m
        unfold bvs at this ⊢
        rwa [← List.map_take] at this
      generalize hlm : l.take m = lm at *
      have HLM := Lib.hid hlm; clear hlm
      have hcm := hl.cap
      have ho : OwnB (w.alloc (.cells #[] 5)) w.heap.size 5 (.slice (some ⟨w.heap.size, 0, none⟩) 0 0) [] :=
        .inr ⟨w.heap.size, [], rfl, by omega, by simp, by simpa [bvs] using Blk.new w 5 []⟩
      have hrd1 : Rd (w.alloc (.cells #[] 5)) A (bvs lm) := hrd.alloc _
      go_enter Try.func52, Try.ntmps52
      go_wp2_with (first
        | ((with_reducible refine at_dst 29 ?_); refine wpList_yield rfl _ (exec_slice_to st24 (.tmp 27) (.tmp 28) rfl A n c m .i64 rfl rfl (by omega)) ?_)
        | ((with_reducible refine at_dst 30 ?_)
           refine wpList_append_bytes bt rfl (.tmp 23) (.tmp 29) rfl w.heap.size _ [] rfl ho A m c lm rfl htl.out hrd1 (by simp; omega) (by simp) ?_
           intro v1 w1 ho1 hg1 _
           have hg' : Blk w1 g 59 [.bool true, .bool false, .slice A n c] := (hg.alloc _).grown hg1 (fun e => by have := (ho.lt _ e.symm).1; omega)
           have hc2' : w1.cell? ⟨g, 2, none⟩ = some (.slice A n c) := by rw [hg'.cell]; rfl
           have hf2' := hg'.free 2)
        | ((with_reducible refine at_dst 37 ?_); refine wpList_yield rfl _ (exec_slice_from st24 (.tmp 35) (.tmp 36) rfl A n c m .i64 rfl rfl (by omega)) ?_)
        | go_in)
      go_ret
      have hfr1 : Fr (· = g) w w1 := ((Fr.refl _ _).alloc _).grown hg1 (fun k hk => .inr (ho.lt k hk).1)
      have hfr2 : Fr (· = g) w1 (w1.setCell ⟨g, 2, none⟩ (.slice (cutA A c m 1) (n - m) (c - m))) := Fr.setCell (p := ⟨g, 2, none⟩) (Fr.refl (· = g) w1) (.inl rfl) _
      have hfar : ∀ k, v1.ownBlock = some k → k ≠ g := fun k hk e => by have := (ho1.lt k hk).1; omega
      refine ⟨_, rfl, ?_, ⟨cutA A c m 1, n - m, c - m, ?_, ?_⟩, hfr1.trans hfr2⟩
      · have h1 : OwnB w1 w.heap.size 5 v1 lm := by simpa using ho1
        exact h1.grown (grownBy_setCell w1 g 2 _) (fun k hk e => by cases hk; exact hfar g e rfl)
      · exact hg'.set_ 2 _
      · exact (hl.fr (hfr1.trans hfr2) (fun k hk => by cases hk; exact hS)).cut m hm
    · have e1 : takeL (some l) k = [] := by simp only [takeL]; rw [if_neg hin]
      have e2 : takeS (some l) k = none := by simp only [takeS]; rw [if_neg hin]
      rw [e1, e2]
      clear e1 e2
      rw [hl.len] at hin
      have hfin : ∀ (w' : World), w' = w.setCell ⟨g, 1, none⟩ (.bool true) → RdP S w' g none ∧ Fr (· = g) w w' := by
        rintro w' rfl
        exact ⟨⟨A, n, c, hg.set_ 1 _⟩, Fr.setCell (p := ⟨g, 1, none⟩) (Fr.refl (· = g) w) (.inl rfl) _⟩
      have HF := Lib.hid hfin
      clear hfin hl hb
      by_cases h0 : k < 0
      · go_enter Try.func52, Try.ntmps52
        go_wp2
        go_ret
        exact ⟨_, rfl, OwnB.nil _ _ _, HF.out _ rfl⟩
      · have h1 : (n : Int) < k := by omega
        go_enter Try.func52, Try.ntmps52
        go_wp2
        go_ret
        exact ⟨_, rfl, OwnB.nil _ _ _, HF.out _ rfl⟩

theorem or_i64 (a b : Nat) (ha : a < 4294967296) (hb : b < 256) : bits .or .i64 ((a : Int) * 256) (b : Int) = (((a * 256 + b : Nat)) : Int) := by
  show IntKind.i64.wrap ((BitVec.ofInt 64 ((a : Int) * 256) ||| BitVec.ofInt 64 (b : Int)).toNat : Int) = _
  have e : (a : Int) * 256 = ((a * 256 : Nat) : Int) := by omega
  rw [BitVec.toNat_or, e, ofInt_u64 (a * 256) (by omega), ofInt_u64 b (by omega), nat_join 8 _ _ (by omega) (by omega)]
  exact Lib.wrap_i64_small _ (by omega)
theorem nOf_take_succ (l : List UInt8) (k : Nat) (h : k < l.length) : nOf (l.take (k + 1)) = nOf (l.take k) * 256 + (l[k]).toNat := by
  rw [List.take_succ_eq_append_getElem h, nOf_append]
  simp [nOf]
theorem nOf_take_lt (l : List UInt8) (k : Nat) (h : k ≤ 4) : nOf (l.take k) < 4294967296 := by
  have h1 := nOf_lt (l.take k)
  have h2 : 256 ^ (l.take k).length ≤ 256 ^ 4 := Nat.pow_le_pow_right (by omega) (by rw [List.length_take]; omega)
  exact Nat.lt_of_lt_of_le h1 h2
theorem takeL_le (st : Option (List UInt8)) (k : Nat) : (takeL st k).length ≤ k := by
  cases st with
  | none => simp [takeL]
  | some l =>
    simp only [takeL]
    split
    · simp; omega
    · simp
def numL (st : Option (List UInt8)) (k : Nat) : Nat := nOf (takeL st k)
theorem numL_lt (st : Option (List UInt8)) (k : Nat) (hk : k ≤ 4) : numL st k < 4294967296 := by
  have := nOf_take_lt (takeL st k) (takeL st k).length (Nat.le_trans (takeL_le st k) hk)
  rwa [List.take_length] at this

set_option maxRecDepth 100000 in
set_option maxHeartbeats 1000000 in
theorem number_any {S : Nat → Prop} (g : Nat) (st : Option (List UInt8)) (k : Nat) (w : World) (h : RdP S w g st) (hS : S g) (hk : k ≤ 4) (hb : ∀ l, st = some l → l.length ≤ 140737488351232) :
    Calls Try.prog 127 #[.pointer (some ⟨g, 0, none⟩), .int .i64 (k : Int)] w fun e w' => e = .returned (.int .i64 (numL st k : Nat)) ∧ RdP S w' g (takeS st k) ∧ Fr (· = g) w w' := by
  have HT := Lib.hid (fun W hW => take_any g st k W hW hS (by omega) hb)
  have hlen := Nat.le_trans (takeL_le st k) hk
  unfold numL
  generalize takeL st k = l at *
  generalize takeS st k = st' at *
  go_enter Try.func127, Try.ntmps127
  go_wp2_with (go_at_call 52; refine (HT.out _ h).mono ?_; rintro e w1 ⟨v, rfl, ho1, hr1, hf1⟩; obtain ⟨A, c, rfl, hcl, hcm, hrd⟩ := ho1.rd)
  go_loopw [5, 12] (fun x i wr => ∃ j : Nat, j ≤ l.length ∧ i = .int .i64 (j : Int) ∧ x = .int .i64 (nOf (l.take j) : Nat) ∧ w1 = wr) (fun _ i _ => l.length - (intOf i).toNat)
  case atStart => exact ⟨0, by omega, by go_num, by simp [nOf], rfl⟩
  case round =>
    obtain ⟨j, hj, rfl, rfl, rfl⟩ := hrel
    by_cases hlt : j < l.length
    · obtain ⟨ad, rfl, hcc⟩ := hrd (by rw [bvs_length]; omega)
      have hc : w1.cell? (ad.add j) = some (.int .u8 ((l[j]).toNat : Int)) := hcc j _ (by rw [bvs_get, List.getElem?_eq_getElem hlt]; rfl)
      have hx := nOf_take_lt l j (by omega)
      have hs := Lib.hid (nOf_take_succ l j hlt)
      have hy : (l[j]).toNat < 256 := UInt8.toNat_lt _
      generalize (l[j]).toNat = y at *
      generalize nOf (l.take j) = x at *
      have hor := or_i64 x y (by omega) hy
      go_wp2
      go_roundw
      case rel => exact ⟨j + 1, by omega, by go_num, by congr 1; rw [hs.out]; omega, by first | rfl | trivial⟩
      case measure => simp only [intOf]; omega
    · obtain rfl : j = l.length := by omega
      go_wp2
      go_ret
      rw [List.take_length]
      exact ⟨rfl, hr1, hf1⟩

set_option maxRecDepth 100000 in
theorem byte_any {S : Nat → Prop} (g : Nat) (st : Option (List UInt8)) (w : World) (h : RdP S w g st) (hS : S g) (hb : ∀ l, st = some l → l.length ≤ 140737488351232) :
    Calls Try.prog 49 #[.pointer (some ⟨g, 0, none⟩)] w fun e w' => e = .returned (.int .u8 (numL st 1 : Nat)) ∧ RdP S w' g (takeS st 1) ∧ Fr (· = g) w w' := by
  have HT := Lib.hid (fun W hW => number_any g st 1 W hW hS (by omega) hb)
  have hlt : numL st 1 < 256 := by
    have h1 := nOf_lt (takeL st ((1 : Nat) : Int))
    have h2 : 256 ^ (takeL st ((1 : Nat) : Int)).length ≤ 256 ^ 1 := Nat.pow_le_pow_right (by omega) (takeL_le st 1)
    exact Nat.lt_of_lt_of_le h1 h2
  generalize numL st 1 = x at *
  go_enter Try.func49, Try.ntmps49
  go_wp2_with (go_at_call 127; refine (HT.out _ h).mono ?_; rintro e w1 ⟨rfl, hr1, hf1⟩)
  go_ret
  exact ⟨rfl, hr1, hf1⟩
set_option maxRecDepth 100000 in
theorem u16_any {S : Nat → Prop} (g : Nat) (st : Option (List UInt8)) (w : World) (h : RdP S w g st) (hS : S g) (hb : ∀ l, st = some l → l.length ≤ 140737488351232) :
    Calls Try.prog 50 #[.pointer (some ⟨g, 0, none⟩)] w fun e w' => e = .returned (.int .i64 (numL st 2 : Nat)) ∧ RdP S w' g (takeS st 2) ∧ Fr (· = g) w w' := by
  have HT := Lib.hid (fun W hW => number_any g st 2 W hW hS (by omega) hb)
  generalize numL st 2 = x at *
  go_enter Try.func50, Try.ntmps50
  go_wp2_with (go_at_call 127; refine (HT.out _ h).mono ?_; rintro e w1 ⟨rfl, hr1, hf1⟩)
  go_ret
  exact ⟨rfl, hr1, hf1⟩
set_option maxRecDepth 100000 in
theorem u32_any {S : Nat → Prop} (g : Nat) (st : Option (List UInt8)) (w : World) (h : RdP S w g st) (hS : S g) (hb : ∀ l, st = some l → l.length ≤ 140737488351232) :
    Calls Try.prog 51 #[.pointer (some ⟨g, 0, none⟩)] w fun e w' => e = .returned (.int .i64 (numL st 4 : Nat)) ∧ RdP S w' g (takeS st 4) ∧ Fr (· = g) w w' := by
  have HT := Lib.hid (fun W hW => number_any g st 4 W hW hS (by omega) hb)
  generalize numL st 4 = x at *
  go_enter Try.func51, Try.ntmps51
  go_wp2_with (go_at_call 127; refine (HT.out _ h).mono ?_; rintro e w1 ⟨rfl, hr1, hf1⟩)
  go_ret
  exact ⟨rfl, hr1, hf1⟩

def leftN (st : Option (List UInt8)) : Nat := match st with
  | none => 0
  | some l => l.length
def badB (st : Option (List UInt8)) : Bool := match st with
  | none => true
  | some _ => false
def doneB (st : Option (List UInt8)) : Bool := match st with
  | none => false
  | some l => (l.length : Int) == 0
set_option maxRecDepth 100000 in
theorem left_any {S : Nat → Prop} (g : Nat) (st : Option (List UInt8)) (w : World) (h : RdP S w g st) :
    Calls Try.prog 45 #[.pointer (some ⟨g, 0, none⟩)] w fun e w' => e = .returned (.int .i64 (leftN st : Nat)) ∧ w = w' := by
  cases st with
  | none =>
    obtain ⟨A, n, c, hg⟩ := h
    have hc0 : w.cell? ⟨g, 0, none⟩ = some (.bool true) := by rw [hg.cell]; rfl
    have hc1 : w.cell? ⟨g, 1, none⟩ = some (.bool true) := by rw [hg.cell]; rfl
    go_enter Try.func45, Try.ntmps45
    go_wp2
    go_ret
    exact ⟨rfl, rfl⟩
  | some l =>
    obtain ⟨A, n, c, hg, hl⟩ := h
    have hc0 : w.cell? ⟨g, 0, none⟩ = some (.bool true) := by rw [hg.cell]; rfl
    have hc1 : w.cell? ⟨g, 1, none⟩ = some (.bool false) := by rw [hg.cell]; rfl
    have hc2 : w.cell? ⟨g, 2, none⟩ = some (.slice A n c) := by rw [hg.cell]; rfl
    have e : leftN (some l) = n := hl.len
    rw [e]
    clear hl e
    go_enter Try.func45, Try.ntmps45
    go_wp2
    go_ret
    exact ⟨rfl, rfl⟩
set_option maxRecDepth 100000 in
theorem bad_any {S : Nat → Prop} (g : Nat) (st : Option (List UInt8)) (w : World) (h : RdP S w g st) :
    Calls Try.prog 46 #[.pointer (some ⟨g, 0, none⟩)] w fun e w' => e = .returned (.bool (badB st)) ∧ w = w' := by
  cases st with
  | none =>
    obtain ⟨A, n, c, hg⟩ := h
    have hc1 : w.cell? ⟨g, 1, none⟩ = some (.bool true) := by rw [hg.cell]; rfl
    go_enter Try.func46, Try.ntmps46
    go_wp2
    go_ret
    exact ⟨rfl, rfl⟩
  | some l =>
    obtain ⟨A, n, c, hg, hl⟩ := h
    have hc1 : w.cell? ⟨g, 1, none⟩ = some (.bool false) := by rw [hg.cell]; rfl
    go_enter Try.func46, Try.ntmps46
    go_wp2
    go_ret
    exact ⟨rfl, rfl⟩
set_option maxRecDepth 100000 in
theorem done_any {S : Nat → Prop} (g : Nat) (st : Option (List UInt8)) (w : World) (h : RdP S w g st) :
    Calls Try.prog 47 #[.pointer (some ⟨g, 0, none⟩)] w fun e w' => e = .returned (.bool (doneB st)) ∧ w = w' := by
  cases st with
  | none =>
    obtain ⟨A, n, c, hg⟩ := h
    have hc0 : w.cell? ⟨g, 0, none⟩ = some (.bool true) := by rw [hg.cell]; rfl
    have hc1 : w.cell? ⟨g, 1, none⟩ = some (.bool true) := by rw [hg.cell]; rfl
    go_enter Try.func47, Try.ntmps47
    go_wp2
    go_ret
    exact ⟨rfl, rfl⟩
  | some l =>
    obtain ⟨A, n, c, hg, hl⟩ := h
    have hc0 : w.cell? ⟨g, 0, none⟩ = some (.bool true) := by rw [hg.cell]; rfl
    have hc1 : w.cell? ⟨g, 1, none⟩ = some (.bool false) := by rw [hg.cell]; rfl
    have hc2 : w.cell? ⟨g, 2, none⟩ = some (.slice A n c) := by rw [hg.cell]; rfl
    have e : doneB (some l) = ((n : Int) == 0) := by simp only [doneB, hl.len]
    rw [e]
    clear hl e
    go_enter Try.func47, Try.ntmps47
    go_wp2
    go_ret
    exact ⟨rfl, rfl⟩
end Go.Proofs.Ytehbahobkgoapaa
