/- Digits and bytes are each other's way back: plain facts. -/
import Derived.Test.YtehbahobkgoapaaUx
namespace Go.Proofs.Ytehbahobkgoapaa
open Go Go.RowKit
set_option linter.unusedSimpArgs false
set_option linter.unusedVariables false

theorem undig_dig : ∀ k, k < 16 → undig (dig k) = k := by decide +kernel
theorem dig_undig0 : ∀ n, n < 256 → 0 ≤ undig (UInt8.ofNat n) → dig (undig (UInt8.ofNat n)).toNat = UInt8.ofNat n := by decide +kernel
theorem dig_undig (c : UInt8) (h : 0 ≤ undig c) : dig (undig c).toNat = c := by
  have := dig_undig0 c.toNat c.toNat_lt
  rw [UInt8.ofNat_toNat] at this
  exact this h
theorem unp_hexs : ∀ l : List UInt8, unp (hexs l) = some l
  | [] => rfl
  | x :: l => by
    have h8 := x.toNat_lt
    show unp (dig (x.toNat / 16) :: dig (x.toNat % 16) :: hexs l) = _
    rw [unp, undig_dig _ (by omega), undig_dig _ (by omega), if_neg (by omega), unp_hexs l]
    simp only [Option.map_some, Int.toNat_natCast]
    have e : 16 * (x.toNat / 16) + x.toNat % 16 = x.toNat := by omega
    rw [e, UInt8.ofNat_toNat]
theorem hexs_unp : ∀ (n : Nat) (t o : List UInt8), t.length ≤ n → unp t = some o → hexs o = t
  | _, [], o, _, h => by
    simp only [unp, Option.some.injEq] at h
    subst h
    rfl
  | _, [x], o, _, h => by simp [unp] at h
  | 0, a :: b :: r, o, hn, h => by simp at hn
  | n + 1, a :: b :: r, o, hn, h => by
    rw [unp] at h
    by_cases hb : undig a < 0 ∨ undig b < 0
    · rw [if_pos hb] at h; cases h
    · rw [if_neg hb] at h
      cases hu : unp r with
      | none => rw [hu] at h; cases h
      | some q =>
        rw [hu] at h
        simp only [Option.map_some, Option.some.injEq] at h
        subst h
        have ih := hexs_unp n r q (by simp at hn; omega) hu
        have ha := undig_lt a
        have hb2 := undig_lt b
        have e : (UInt8.ofNat (16 * (undig a).toNat + (undig b).toNat)).toNat = 16 * (undig a).toNat + (undig b).toNat := UInt8.toNat_ofNat_of_lt' (by show _ < 256; omega)
        show dig (_ / 16) :: dig (_ % 16) :: hexs q = _
        rw [e, ih, show (16 * (undig a).toNat + (undig b).toNat) / 16 = (undig a).toNat by omega, show (16 * (undig a).toNat + (undig b).toNat) % 16 = (undig b).toNat by omega, dig_undig a (by omega), dig_undig b (by omega)]
theorem back_bytes (l : List UInt8) (h : l.length ≤ 32768) : unhexE (hexL l) = 0 ∧ unhexL (hexL l) = l := by
  unfold hexL
  by_cases h0 : l.length = 0
  · have : l = [] := List.eq_nil_of_length_eq_zero h0
    subst this
    exact ⟨rfl, rfl⟩
  · rw [if_neg h0]
    have hl := hexs_length l
    have hne : hexs l ≠ [45] := by intro e; rw [e] at hl; simp at hl; omega
    unfold unhexE unhexL
    rw [if_neg (by omega), if_neg hne, if_neg (by omega), if_neg (by intro hh; rcases hh with hh | hh | hh | hh <;> first | exact hne hh | omega), unp_hexs]
    exact ⟨rfl, rfl⟩
theorem unhexL_len (t : List UInt8) : (unhexL t).length ≤ 65536 := by
  unfold unhexL
  by_cases h : 65536 < t.length ∨ t = [45] ∨ t.length = 0 ∨ t.length % 2 = 1
  · rw [if_pos h]; simp
  · rw [if_neg h]
    cases hu : unp t with
    | none => simp [upL]
    | some o =>
      have e := hexs_unp t.length t o (Nat.le_refl _) hu
      have hl := hexs_length o
      rw [e] at hl
      have h1 : ¬ 65536 < t.length := fun hh => h (.inl hh)
      show o.length ≤ 65536
      omega
theorem back_text (t : List UInt8) (h : unhexE t = 0) : hexL (unhexL t) = t := by
  unfold unhexE at h
  by_cases h1 : 65536 < t.length
  · rw [if_pos h1] at h; cases h
  · rw [if_neg h1] at h
    by_cases h2 : t = [45]
    · subst h2; rfl
    · rw [if_neg h2] at h
      by_cases h3 : t.length = 0 ∨ t.length % 2 = 1
      · rw [if_pos h3] at h; cases h
      · rw [if_neg h3] at h
        unfold unhexL
        rw [if_neg (by intro hh; rcases hh with hh | hh | hh | hh <;> first | exact h2 hh | omega)]
        cases hu : unp t with
        | none => rw [hu] at h; cases h
        | some o =>
          have e := hexs_unp t.length t o (Nat.le_refl _) hu
          have hl := hexs_length o
          rw [e] at hl
          show hexL o = t
          unfold hexL
          rw [if_neg (by omega), e]
end Go.Proofs.Ytehbahobkgoapaa
