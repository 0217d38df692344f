/- The walk of OctetHex: it says true for every bytes and texts (of at most 1048576 bytes). -/
import Derived.Test.YtehbahobkgoapaaCx
import Derived.Test.YtehbahobkgoapaaKic
import Derived.Test.YtehbahobkgoapaaRw
import Derived.Deep.Cut
import Derived.Deep.CutRange
namespace Go.Proofs.Ytehbahobkgoapaa
open Go Go.RowKit
set_option linter.unusedSimpArgs false
set_option linter.unusedVariables false

theorem OwnB.shape8 {w : World} {base E : Nat} {v : Value} {l : List UInt8} (h : OwnB w base E v l) : ∃ A n c, v = .slice A n c := by
  obtain ⟨A, c, e, _⟩ := h.rd
  exact ⟨A, _, c, e⟩
theorem lentAll_len (l : List UInt8) : (lentAll l).length = l.length + 5 := by simp [lentAll]
theorem lent_full {w : World} {g n : Nat} {l : List UInt8} (h : Blk w g 5 (bvs (lentAll l))) (hl : l.length = n) (hn : n ≤ 140737488351232) : Full w (.slice (some ⟨g, 0, none⟩) n (n + 5)) (lentAll l) :=
  .inr ⟨g, n, by rw [lentAll_len, hl], by rw [lentAll_len, hl]; omega, by rw [lentAll_len, hl]; unfold maxLen; omega, h⟩
theorem lent_rd5 {w : World} {g : Nat} {l : List UInt8} (h : Blk w g 5 (bvs (lentAll l))) : Rd w (some ⟨g, 0, none⟩) (bvs (lentAll l)) := Rd.of_blk0 (es := []) (by simpa using h)

set_option maxRecDepth 100000 in
set_option maxHeartbeats 4000000 in
theorem octet_hex (A : Option Addr) (n c : Nat) (l : List UInt8) (t : List UInt8) (B : Option Addr) (m d : Nat) (k : List UInt8) (w : World) (hr : Rd w A (bvs l)) (hl : l.length = n) (hn : n ≤ 1048576) (ht : t.length ≤ 9223372036854775807)
    (hr2 : Rd w B (bvs k)) (hk : k.length = m) (hm : m ≤ 1048576) :
    Calls Try.prog 8 #[.slice A n c, .string ⟨t.toArray⟩, .slice B m d] w fun e w' => e = .returned (.bool true) ∧ Below w.heap.size w w' := by
  have HL := Lib.hid hl
  have HK := Lib.hid hk
  have HX := Lib.hid (fun W => unhex_any t W ht)
  have HY := Lib.hid (fun W => runhex_any t W ht)
  clear hl hk ht
  generalize unhexL t = u at *
  generalize unhexE t = ue at *
  go_enter Try.func8, Try.ntmps8
  go_upto_region 5 with (first
    | (go_at_call 25
       first
        | (with_reducible refine (lent A n c l w hr HL.out (by omega)).mono ?_
           rintro e w1 ⟨rfl, hb1, hw1, -⟩
           have hr21 := hr2.below hw1)
        | (with_reducible refine (lent B m d k w1 hr21 HK.out (by omega)).mono ?_
           rintro e w2 ⟨rfl, hb2, hw2, -⟩))
    | (go_at_call 58
       first
        | (with_reducible refine (HX.out w2).mono ?_
           rintro e w3 ⟨v3, rfl, ho3, hw3⟩
           obtain ⟨A3, n3, c3, rfl⟩ := ho3.shape8)
        | (with_reducible refine (HX.out w3).mono ?_
           rintro e w4 ⟨v4, rfl, ho4, hw4⟩
           obtain ⟨A4, n4, c4, rfl⟩ := ho4.shape8))
    | (go_at_call 59
       with_reducible refine (HY.out w4).mono ?_
       rintro e w5 ⟨v5, rfl, ho5, hw5⟩
       obtain ⟨A5, n5, c5, rfl⟩ := ho5.shape8))
  -- all that stands
  have s12 : w1.heap.size ≤ w2.heap.size := hw2.size
  have s23 : w2.heap.size ≤ w3.heap.size := hw3.size
  have s34 : w3.heap.size ≤ w4.heap.size := hw4.size
  have s45 : w4.heap.size ≤ w5.heap.size := hw5.size
  have l1 : w.heap.size < w1.heap.size := hb1.lt
  have hB5 : Below w.heap.size w w5 := (((hw1.trans (hw2.mono hw1.size)).trans (hw3.mono (by omega))).trans (hw4.mono (by omega))).trans (hw5.mono (by omega))
  have hp5 : Blk w5 w.heap.size 5 (bvs (lentAll l)) := (((hb1.below hw2 hb1.lt).below hw3 (by omega)).below hw4 (by omega)).below hw5 (by omega)
  have hq5 : Blk w5 w1.heap.size 5 (bvs (lentAll k)) := ((hb2.below hw3 hb2.lt).below hw4 (by have := hb2.lt; omega)).below hw5 (by have := hb2.lt; omega)
  have hx5 : OwnB w5 w2.heap.size 5 (.slice A3 n3 c3) u := (ho3.below hw4 (Nat.le_refl _)).below hw5 (by omega)
  have hy5 : OwnB w5 w3.heap.size 5 (.slice A4 n4 c4) u := ho4.below hw5 (Nat.le_refl _)
  have hlt : l1 = l1 := rfl
  have hwx := ho3.lt
  have hwy := ho4.lt
  have hW : Within w.heap.size w4.heap.size [.slice A3 n3 c3, .slice A4 n4 c4, .slice (some ⟨w.heap.size, 0, none⟩) n (n + 5), .slice (some ⟨w1.heap.size, 0, none⟩) m (m + 5)] := by
    have h1 : Within w.heap.size w2.heap.size [.slice (some ⟨w.heap.size, 0, none⟩) n (n + 5), .slice (some ⟨w1.heap.size, 0, none⟩) m (m + 5)] := by
      have a1 : Within w.heap.size w1.heap.size [.slice (some ⟨w.heap.size, 0, none⟩) n (n + 5)] := Within.one (by omega) (fun g hg => by simp [Value.ownBlock] at hg; omega)
      have a2 : Within w1.heap.size w2.heap.size [.slice (some ⟨w1.heap.size, 0, none⟩) m (m + 5)] := Within.one (by omega) (fun g hg => by simp [Value.ownBlock] at hg; have := hb2.lt; omega)
      exact a1.up a2
    have h2 : Within w2.heap.size w4.heap.size [.slice A3 n3 c3, .slice A4 n4 c4] := (ho3.within s23).up (ho4.within s34)
    exact Within.down h1 h2
  clear hlt
  obtain ⟨s3, f3, _⟩ := hx5.full
  obtain ⟨s4, f4, _⟩ := hy5.full
  obtain ⟨A3', c3', e3, hc3, hm3, rd3⟩ := hx5.rd
  obtain ⟨A4', c4', e4, hc4, hm4, rd4⟩ := hy5.rd
  obtain ⟨A5', c5', e5, hc5, hm5, rd5⟩ := ho5.rd
  injection e3 with e3a e3b e3c
  injection e4 with e4a e4b e4c
  injection e5 with e5a e5b e5c
  subst e3a e3b e3c e4a e4b e4c e5a e5b e5c
  have F5 : AllFull w5 [.slice A3 u.length c3, .slice A4 u.length c4, .slice (some ⟨w.heap.size, 0, none⟩) n (n + 5), .slice (some ⟨w1.heap.size, 0, none⟩) m (m + 5)] [u ++ s3, u ++ s4, lentAll l, lentAll k] :=
    AllFull.cons f3 (AllFull.cons f4 (AllFull.cons (lent_full hp5 HL.out (by omega)) (AllFull.cons (lent_full hq5 HK.out (by omega)) (AllFull.nil _))))
  have hr5 := hr.below hB5
  have hr25 := hr2.below hB5
  clear hb1 hb2 hw1 hw2 hw3 hw4 hw5 ho3 ho4 ho5 hx5 hy5 hr hr2 hr21 hwx hwy f3 f4 HX HY s23
  have hg1 : w.heap.size < w5.heap.size := hp5.lt
  have hg2 : w1.heap.size < w5.heap.size := hq5.lt
  generalize hge : w.heap.size = g1 at *
  have HG := Lib.hid hge
  clear hge
  generalize w1.heap.size = g2 at *
  have C1 := Lib.hid (fun W (hW : Below w5.heap.size w5 W) => octet_compare (some ⟨g1, 0, none⟩) n (n + 5) l (some ⟨g2, 0, none⟩) m (m + 5) k W (lent_rd (hp5.below hW hg1)) HL.out (lent_rd (hq5.below hW hg2)) HK.out)
  have C2 := Lib.hid (fun W (hW : Below w5.heap.size w5 W) => rcompare_any A n c l B m d k W (hr5.below hW) HL.out (hr25.below hW) HK.out (by omega) (by omega))
  have C3 := Lib.hid (fun W (hW : Below w5.heap.size w5 W) => octet_compare (some ⟨g2, 0, none⟩) m (m + 5) k (some ⟨g1, 0, none⟩) n (n + 5) l W (lent_rd (hq5.below hW hg2)) HK.out (lent_rd (hp5.below hW hg1)) HL.out)
  have C4 := Lib.hid (fun W (hW : Below w5.heap.size w5 W) => rcompare_any B m d k A n c l W (hr25.below hW) HK.out (hr5.below hW) HL.out (by omega) (by omega))
  have X1 := Lib.hid (fun W (hW : Below w5.heap.size w5 W) => hex_any (some ⟨g1, 0, none⟩) n (n + 5) l W (lent_rd (hp5.below hW hg1)) HL.out (by omega))
  have X2 := Lib.hid (fun W (hW : Below w5.heap.size w5 W) => rhex_any A n c l W (hr5.below hW) HL.out hn)
  have S1 := Lib.hid (fun W (hW : Below w5.heap.size w5 W) => same_bytes A3 u.length c3 u A5 u.length c5 u W (rd3.below hW) rfl (rd5.below hW) rfl)
  have S2 := Lib.hid (fun W (hW : Below w5.heap.size w5 W) => same_bytes A4 u.length c4 u A5 u.length c5 u W (rd4.below hW) rfl (rd5.below hW) rfl)
  have K1 := Lib.hid (fun W (hW : Below w5.heap.size w5 W) => kept_bytes ⟨g1, 0, none⟩ A n c l W (hr5.below hW) HL.out (by omega) (lent_rd5 (hp5.below hW hg1)))
  have K2 := Lib.hid (fun W (hW : Below w5.heap.size w5 W) => kept_bytes ⟨g2, 0, none⟩ B m d k W (hr25.below hW) HK.out (by omega) (lent_rd5 (hq5.below hW hg2)))
  simp only [beq_self_eq_true] at S1 S2
  generalize Lib.compareBytes l k = z1 at *
  generalize Lib.compareBytes k l = z2 at *
  generalize hexL l = hx at *
  generalize u.length = un at *
  clear hp5 hq5 rd3 rd4 rd5 hr5 hr25
  go_upto_region 8 with (first
    | (go_at_call 60; with_reducible refine (X1.out w5 (Below.refl _ _)).mono ?_; rintro e w6 ⟨rfl, h6⟩; have t6 : Below w5.heap.size w5 w6 := h6)
    | (go_at_call 61; with_reducible refine (X2.out w6 t6).mono ?_; rintro e w7 ⟨rfl, h7⟩; have t7 := t6.trans (h7.mono t6.size))
    | (go_at_call 62
       first
        | (with_reducible refine (C1.out w7 t7).mono ?_; rintro e w8 ⟨rfl, rfl⟩)
        | (with_reducible refine (C3.out w9 t9).mono ?_; rintro e w10 ⟨rfl, rfl⟩))
    | (go_at_call 63
       first
        | (with_reducible refine (C2.out w7 t7).mono ?_; rintro e w9 ⟨rfl, h9⟩; have t9 := t7.trans (h9.mono t7.size))
        | (with_reducible refine (C4.out w9 t9).mono ?_; rintro e w11 ⟨rfl, h11⟩; have t11 := t9.trans (h11.mono t9.size)))
    | (go_at_call 33
       first
        | (with_reducible refine (S1.out w11 t11).mono ?_; rintro e w12 ⟨rfl, rfl⟩)
        | (with_reducible refine (S2.out w11 t11).mono ?_; rintro e w13 ⟨rfl, rfl⟩)))
  go_wp2_with (first
    | (go_at_call 40
       first
        | (with_reducible refine (K1.out w11 t11).mono ?_; rintro e w14 ⟨rfl, h14⟩; have t14 := t11.trans (h14.mono t11.size))
        | (with_reducible refine (K2.out w14 t14).mono ?_; rintro e w15 ⟨rfl, h15⟩; have t15 := t14.trans (h15.mono t14.size)))
    | (go_at_call 34
       have hd : Below w15.heap.size w15 (w15.alloc (.cells #[.slice A3 un c3, .slice A4 un c4, .slice (some ⟨g1, 0, none⟩) n (n + 5), .slice (some ⟨g2, 0, none⟩) m (m + 5)] 24)) := (Below.refl _ _).alloc (Nat.le_refl _) _
       have t16 : Below w5.heap.size w5 (w15.alloc (.cells #[.slice A3 un c3, .slice A4 un c4, .slice (some ⟨g1, 0, none⟩) n (n + 5), .slice (some ⟨g2, 0, none⟩) m (m + 5)] 24)) := t15.trans (hd.mono t15.size)
       refine (apart_bytes' w15.heap.size 4 4 [.slice A3 un c3, .slice A4 un c4, .slice (some ⟨g1, 0, none⟩) n (n + 5), .slice (some ⟨g2, 0, none⟩) m (m + 5)] [u ++ s3, u ++ s4, lentAll l, lentAll k] _ rfl
         (Rd.of_blk0 (es := []) (by simpa using Blk.new w15 24 [.slice A3 un c3, .slice A4 un c4, .slice (some ⟨g1, 0, none⟩) n (n + 5), .slice (some ⟨g2, 0, none⟩) m (m + 5)])) rfl (F5.below rfl t16) (hW.sep (Nat.le_trans s45 t15.size)) (by simp)).mono ?_
       rintro e w17 ⟨rfl, h17⟩))
  go_ret
  rw [HG.out]
  exact ⟨rfl, hB5.trans ((t16.trans (h17.mono t16.size)).mono (Nat.le_of_lt hg1))⟩
end Go.Proofs.Ytehbahobkgoapaa
