/- Plain facts for the digest's walk: sums of words one by one, a word out of its bytes, the cells of a state. No program in sight. -/
import Derived.Test.YtehbahobkgoapaaWc
import Derived.Test.YtehbahobkgoapaaOc
namespace Go.Proofs.Ytehbahobkgoapaa
open Go Go.RowKit
set_option linter.unusedSimpArgs false
set_option linter.unusedVariables false

/-- The first i words are summed. -/
def zipT (h v : List Nat) (i : Nat) : List Nat := (List.zipWith ad h v).take i ++ h.drop i
theorem zipT_zero (h v : List Nat) : zipT h v 0 = h := by simp [zipT]
theorem zipT_end (h v : List Nat) (hl : h.length = 8) : zipT h v 8 = List.zipWith ad h v := by
  unfold zipT
  rw [List.drop_eq_nil_of_le (by omega), List.append_nil, List.take_of_length_le (by simp; omega)]
theorem zipT_get (h v : List Nat) (i : Nat) (hl : h.length = 8) (hv : v.length = 8) (hi : i < 8) : (zipT h v i)[i]? = some (h.getD i 0) := by
  unfold zipT
  have hz : (List.take i (List.zipWith ad h v)).length = i := by simp [hl, hv]; omega
  rw [List.getElem?_append_right (by omega), hz, Nat.sub_self, List.getElem?_drop, Nat.add_zero, List.getD_eq_getElem?_getD, List.getElem?_eq_getElem (by omega)]
  rfl
theorem zipT_set (h v : List Nat) (i : Nat) (hl : h.length = 8) (hv : v.length = 8) (hi : i < 8) : (zipT h v i).set i (ad (h.getD i 0) (v.getD i 0)) = zipT h v (i + 1) := by
  unfold zipT
  have hz : (List.take i (List.zipWith ad h v)).length = i := by simp [hl, hv]; omega
  have hz2 : i < (List.zipWith ad h v).length := by simp [hl, hv]; omega
  have g1 : h.getD i 0 = h[i] := by rw [List.getD_eq_getElem?_getD, List.getElem?_eq_getElem (by omega), Option.getD_some]
  have g2 : v.getD i 0 = v[i] := by rw [List.getD_eq_getElem?_getD, List.getElem?_eq_getElem (by omega), Option.getD_some]
  rw [List.set_append_right _ _ (by omega), hz, Nat.sub_self, List.drop_eq_getElem_cons (show i < h.length by omega), List.set_cons_zero, List.take_succ_eq_append_getElem hz2, List.getElem_zipWith, g1, g2, List.append_assoc]
  rfl
theorem zipT_length (h v : List Nat) (i : Nat) (hl : h.length = 8) (hv : v.length = 8) (hi : i ≤ 8) : (zipT h v i).length = 8 := by
  simp [zipT, hl, hv]; omega
theorem getD_some (l : List Nat) (i : Nat) (h : i < l.length) : l[i]? = some (l.getD i 0) := by
  rw [List.getD_eq_getElem?_getD, List.getElem?_eq_getElem h]
  rfl

/-- A word after i of its bytes. -/
def pw (b : List UInt8) (t : Nat) : Nat → Nat
  | 0 => 0
  | i + 1 => pw b t i * 256 + (b.getD (4 * t + i) 0).toNat
theorem pw_lt (b : List UInt8) (t i : Nat) : pw b t i < 256 ^ i := by
  induction i with
  | zero => simp [pw]
  | succ i ih =>
    have := (b.getD (4 * t + i) 0).toNat_lt
    rw [pw, Nat.pow_succ]
    omega
theorem pw_word (b : List UInt8) (t : Nat) : pw b t 4 = wordOf b t := by
  unfold wordOf
  simp only [pw, Nat.zero_mul, Nat.zero_add, Nat.add_zero]
  omega
theorem pw_step (b : List UInt8) (t i : Nat) (hi : i < 4) : ad (pw b t i * 256 % 4294967296) (b.getD (4 * t + i) 0).toNat = pw b t (i + 1) := by
  have h1 := pw_lt b t i
  have h2 : (256 : Nat) ^ i ≤ 256 ^ 3 := Nat.pow_le_pow_right (by decide) (by omega)
  have h3 := (b.getD (4 * t + i) 0).toNat_lt
  unfold ad
  rw [pw, Nat.mod_eq_of_lt (by omega), Nat.mod_eq_of_lt (by omega)]
theorem pw_lt32 (b : List UInt8) (t i : Nat) (hi : i ≤ 4) : pw b t i < 4294967296 :=
  Nat.lt_of_lt_of_le (pw_lt b t i) (show 256 ^ i ≤ 256 ^ 4 from Nat.pow_le_pow_right (by decide) hi)
/-- The first t words, a part of the next. -/
def fpw (b : List UInt8) (t i : Nat) : List Nat := first t b ++ pw b t i :: zw (63 - t)
theorem fpw_zero (b : List UInt8) (t : Nat) (ht : t < 64) : first t b ++ zw (64 - t) = fpw b t 0 := by
  unfold fpw zw
  rw [show 64 - t = (63 - t) + 1 by omega, List.replicate_succ]
  rfl
theorem fpw_end (b : List UInt8) (t : Nat) (ht : t < 64) : fpw b t 4 = first (t + 1) b ++ zw (64 - (t + 1)) := by
  unfold fpw
  rw [pw_word, first, List.append_assoc, show 64 - (t + 1) = 63 - t by omega]
  rfl
theorem fpw_get (b : List UInt8) (t i : Nat) : (fpw b t i)[t]? = some (pw b t i) := by
  unfold fpw
  rw [List.getElem?_append_right (by rw [first_length]; omega), first_length, Nat.sub_self]
  rfl
theorem fpw_set (b : List UInt8) (t i : Nat) : (fpw b t i).set t (pw b t (i + 1)) = fpw b t (i + 1) := by
  unfold fpw
  rw [List.set_append_right _ _ (by rw [first_length]; omega), first_length, Nat.sub_self, List.set_cons_zero]
theorem fpw_length (b : List UInt8) (t i : Nat) (ht : t < 64) : (fpw b t i).length = 64 := by
  simp [fpw, first_length, zw_length]; omega

/-- The cells of a state. -/
def stC (h : List Nat) (b : List UInt8) (n all : Nat) : List Value := .bool true :: (wvs h ++ (bvs b ++ [.int .i64 (n : Int), .int .i64 (all : Int)]))
section
variable {h : List Nat} {b : List UInt8} {n all : Nat} (hl : h.length = 8) (hb : b.length = 64)
include hl hb
theorem stC_length : (stC h b n all).length = 75 := by simp [stC, wvs_length, bvs_length, hl, hb]
theorem stC_n : (stC h b n all)[73]? = some (.int .i64 (n : Int)) := by
  unfold stC
  rw [List.getElem?_cons_succ, List.getElem?_append_right (by rw [wvs_length]; omega), wvs_length, hl, List.getElem?_append_right (by rw [bvs_length]; omega), bvs_length, hb]
  rfl
theorem stC_all : (stC h b n all)[74]? = some (.int .i64 (all : Int)) := by
  unfold stC
  rw [List.getElem?_cons_succ, List.getElem?_append_right (by rw [wvs_length]; omega), wvs_length, hl, List.getElem?_append_right (by rw [bvs_length]; omega), bvs_length, hb]
  rfl
theorem stC_set_n (k : Nat) : (stC h b n all).set 73 (.int .i64 (k : Int)) = stC h b k all := by
  unfold stC
  rw [List.set_cons_succ, List.set_append_right _ _ (by rw [wvs_length]; omega), wvs_length, hl, List.set_append_right _ _ (by rw [bvs_length]; omega), bvs_length, hb]
  rfl
theorem stC_set_all (k : Nat) : (stC h b n all).set 74 (.int .i64 (k : Int)) = stC h b n k := by
  unfold stC
  rw [List.set_cons_succ, List.set_append_right _ _ (by rw [wvs_length]; omega), wvs_length, hl, List.set_append_right _ _ (by rw [bvs_length]; omega), bvs_length, hb]
  rfl
omit hb in
theorem stC_h : ((stC h b n all).drop 1).take 8 = wvs h := by
  unfold stC
  rw [List.drop_succ_cons, List.drop_zero, List.take_append_of_le_length (by rw [wvs_length]; omega), List.take_of_length_le (by rw [wvs_length]; omega)]
theorem stC_b : ((stC h b n all).drop 9).take 64 = bvs b := by
  unfold stC
  rw [List.drop_succ_cons, List.drop_append_of_le_length (by rw [wvs_length]; omega), List.drop_eq_nil_of_le (by rw [wvs_length]; omega), List.nil_append, List.take_append_of_le_length (by rw [bvs_length]; omega), List.take_of_length_le (by rw [bvs_length]; omega)]
omit hb in
theorem stC_put_h (h' : List Nat) (hl' : h'.length = 8) : splice (stC h b n all) 1 (wvs h') = stC h' b n all := by
  unfold stC splice
  rw [List.take_succ_cons, List.take_zero, wvs_length, hl', List.drop_succ_cons, List.drop_append_of_le_length (by rw [wvs_length]; omega), List.drop_eq_nil_of_le (by rw [wvs_length]; omega)]
  rfl
theorem stC_put_b (k : Nat) (x : List UInt8) (hk : k + x.length ≤ 64) : splice (stC h b n all) (9 + k) (bvs x) = stC h (splice b k x) n all := by
  unfold stC splice
  have e1 : (bvs b).take k = bvs (b.take k) := by simp [bvs, List.map_take]
  have e2 : (bvs b).drop (k + x.length) = bvs (b.drop (k + x.length)) := by simp [bvs, List.map_drop]
  rw [show 9 + k = (8 + k) + 1 by omega, List.take_succ_cons, bvs_length, show 8 + k + 1 + x.length = (8 + k + x.length) + 1 by omega, List.drop_succ_cons]
  rw [List.take_append, List.drop_append, wvs_length, hl, List.take_of_length_le (by rw [wvs_length]; omega), show List.drop (8 + k + x.length) (wvs h) = [] from List.drop_eq_nil_of_le (by rw [wvs_length]; omega), List.nil_append]
  rw [show 8 + k - 8 = k by omega, show 8 + k + x.length - 8 = k + x.length by omega, List.take_append_of_le_length (by rw [bvs_length]; omega), List.drop_append_of_le_length (by rw [bvs_length]; omega), e1, e2]
  simp only [bvs_append, List.append_assoc, List.cons_append]
end
theorem stC_h0 {h : List Nat} {b : List UInt8} {n all : Nat} : (stC h b n all)[0]? = some (.bool true) := rfl
end Go.Proofs.Ytehbahobkgoapaa
