/- Contracts of octet.New, of the reference's New, Take, Number, Done. -/
import Derived.Test.YtehbahobkgoapaaRr
namespace Go.Proofs.Ytehbahobkgoapaa
open Go Go.RowKit
set_option linter.unusedSimpArgs false
set_option linter.unusedVariables false

/-- A reader has just been made: at g, of type t, with the cells that f makes of its bytes' slice. -/
structure Made (w w' : World) (g t : Nat) (f : Value → List Value) (A : Option Addr) (c : Nat) (l : List UInt8) : Prop where
  blk : Blk w' g t (f (.slice A l.length c))
  cap : l.length ≤ c
  max : c ≤ maxLen
  rd : Rd w' A (bvs l)
  far : ∀ ad, A = some ad → ad.block ≠ g ∧ w.heap.size ≤ ad.block ∧ ad.block < w'.heap.size
  new : w.heap.size ≤ g
  bel : Below w.heap.size w w'
theorem OwnB.addr {w : World} {base E n c : Nat} {A : Option Addr} {l : List UInt8} (h : OwnB w base E (.slice A n c) l) : ∀ ad, A = some ad → base ≤ ad.block ∧ ad.block < w.heap.size := by
  rintro ad rfl
  exact h.lt ad.block rfl

set_option maxRecDepth 100000 in
theorem new_any (A : Option Addr) (n c : Nat) (l : List UInt8) (w : World) (hr : Rd w A (bvs l)) (hl : l.length = n) (hn : n ≤ 140737488351232) :
    Calls Try.prog 41 #[.slice A n c] w fun e w' => ∃ g A' c', e = .returned (.pointer (some ⟨g, 0, none⟩)) ∧ Made w w' g 59 (fun v => [.bool true, .bool false, v]) A' c' l := by
  have HL := Lib.hid hl
  subst hl
  have ho : OwnB (w.alloc (.cells #[] 5)) w.heap.size 5 (.slice (some ⟨w.heap.size, 0, none⟩) 0 0) [] :=
    .inr ⟨w.heap.size, [], rfl, by omega, by simp, by simpa [bvs] using Blk.new w 5 []⟩
  have hrd1 : Rd (w.alloc (.cells #[] 5)) A (bvs l) := hr.alloc _
  have hB1 : Below w.heap.size w (w.alloc (.cells #[] 5)) := (Below.refl _ _).alloc (Nat.le_refl _) _
  go_enter Try.func41, Try.ntmps41
  go_wp2_with (
    (with_reducible refine at_dst 5 ?_)
    refine wpList_append_bytes bt rfl (.tmp 3) (.tmp 4) rfl w.heap.size _ [] rfl ho A l.length c l rfl rfl hrd1 (by simp; omega) (by simp) ?_
    intro v1 w1 ho1 hg1 _
    have ho2 : OwnB w1 w.heap.size 5 v1 l := by simpa using ho1
    obtain ⟨A', c', rfl, hcl, hcm, hrd⟩ := ho2.rd)
  go_ret
  have hB2 : Below w.heap.size w w1 := hB1.grown hg1 hB1.size (fun k hk => (ho.lt k hk).1)
  refine ⟨w1.heap.size, rfl, A', c', Blk.new w1 59 _, hcl, hcm, hrd.alloc _, ?_, hB2.size, hB2.alloc hB2.size _⟩
  intro ad e
  have := ho2.addr ad e
  exact ⟨by omega, this.1, by simp; omega⟩
set_option maxRecDepth 100000 in
theorem rnew_any (A : Option Addr) (n c : Nat) (l : List UInt8) (w : World) (hr : Rd w A (bvs l)) (hl : l.length = n) (hn : n ≤ 140737488351232) :
    Calls Try.prog 43 #[.slice A n c] w fun e w' => ∃ g A' c', e = .returned (.pointer (some ⟨g, 0, none⟩)) ∧ Made w w' g 55 (fun v => [v, .bool false]) A' c' l := by
  have HL := Lib.hid hl
  subst hl
  have ho : OwnB (w.alloc (.cells #[] 5)) w.heap.size 5 (.slice (some ⟨w.heap.size, 0, none⟩) 0 0) [] :=
    .inr ⟨w.heap.size, [], rfl, by omega, by simp, by simpa [bvs] using Blk.new w 5 []⟩
  have hrd1 : Rd (w.alloc (.cells #[] 5)) A (bvs l) := hr.alloc _
  have hB1 : Below w.heap.size w (w.alloc (.cells #[] 5)) := (Below.refl _ _).alloc (Nat.le_refl _) _
  go_enter Try.func43, Try.ntmps43
  go_wp2_with (
    (with_reducible refine at_dst 5 ?_)
    refine wpList_append_bytes bt rfl (.tmp 3) (.tmp 4) rfl w.heap.size _ [] rfl ho A l.length c l rfl rfl hrd1 (by simp; omega) (by simp) ?_
    intro v1 w1 ho1 hg1 _
    have ho2 : OwnB w1 w.heap.size 5 v1 l := by simpa using ho1
    obtain ⟨A', c', rfl, hcl, hcm, hrd⟩ := ho2.rd)
  go_ret
  have hB2 : Below w.heap.size w w1 := hB1.grown hg1 hB1.size (fun k hk => (ho.lt k hk).1)
  refine ⟨w1.heap.size, rfl, A', c', Blk.new w1 55 _, hcl, hcm, hrd.alloc _, ?_, hB2.size, hB2.alloc hB2.size _⟩
  intro ad e
  have := ho2.addr ad e
  exact ⟨by omega, this.1, by simp; omega⟩

set_option maxRecDepth 100000 in
set_option maxHeartbeats 1000000 in
theorem rtake_any {S : Nat → Prop} (g : Nat) (st : Option (List UInt8)) (k : Int) (w : World) (h : RfP S w g st) (hS : S g) (hk : -9223372036854775808 ≤ k ∧ k ≤ 9223372036854775807) (hb : ∀ l, st = some l → l.length ≤ 140737488351232) :
    Calls Try.prog 125 #[.pointer (some ⟨g, 0, none⟩), .int .i64 k] w fun e w' => ∃ v, e = .returned (.tuple #[v, .bool (takeB st k)]) ∧ OwnB w' w.heap.size 5 v (takeL st k) ∧ RfP S w' g (takeS st k) ∧ Fr (· = g) w w' := by
  cases st with
  | none =>
    have hg : Blk w g 55 [.slice none 0 0, .bool true] := h
    have hc0 : w.cell? ⟨g, 0, none⟩ = some (.slice none 0 0) := by rw [hg.cell]; rfl
    have hc1 : w.cell? ⟨g, 1, none⟩ = some (.bool true) := by rw [hg.cell]; rfl
    have hf0 := hg.free 0
    have hf1 := hg.free 1
    go_enter Try.func125, Try.ntmps125
    go_wp2
    go_ret2
    exact ⟨_, rfl, OwnB.nil _ _ _, (hg.set_ 1 _).set_ 0 _, (Fr.setCell (p := ⟨g, 1, none⟩) (Fr.refl (· = g) w) (.inl rfl) _).trans (Fr.setCell (p := ⟨g, 0, none⟩) (Fr.refl (· = g) _) (.inl rfl) _)⟩
  | some l =>
    obtain ⟨A, n, c, hg, hl⟩ := h
    have hc0 : w.cell? ⟨g, 0, none⟩ = some (.slice A n c) := by rw [hg.cell]; rfl
    have hc1 : w.cell? ⟨g, 1, none⟩ = some (.bool false) := by rw [hg.cell]; rfl
    have hf0 := hg.free 0
    have hf1 := hg.free 1
    have hglt := hg.lt
    have hn : n ≤ 140737488351232 := by rw [← hl.len]; exact hb l rfl
    have HL := Lib.hid hl.len
    by_cases hin : 0 ≤ k ∧ k ≤ l.length
    · have e1 : takeL (some l) k = l.take k.toNat := by simp only [takeL]; rw [if_pos hin]
      have e2 : takeS (some l) k = some (l.drop k.toNat) := by simp only [takeS]; rw [if_pos hin]
      have e3 : takeB (some l) k = true := by simp only [takeB]; simpa using hin
      rw [e1, e2, e3]
      clear e1 e2 e3
      obtain ⟨m, rfl⟩ := Int.eq_ofNat_of_zero_le hin.1
      rw [Int.toNat_natCast]
      have hm : m ≤ n := by rw [← hl.len]; omega
      clear hin
      have htl : Hid ((l.take m).length = m) := by show _ = _; simp [hl.len]; omega
      have hrd : Rd w A (bvs (l.take m)) := by
        have := hl.rd.take m
        unfold bvs at this ⊢
        rwa [← List.map_take] at this
      generalize hlm : l.take m = lm at *
      have HLM := Lib.hid hlm; clear hlm
      have hcm := hl.cap
      have ho : OwnB (w.alloc (.cells #[] 5)) w.heap.size 5 (.slice (some ⟨w.heap.size, 0, none⟩) 0 0) [] :=
        .inr ⟨w.heap.size, [], rfl, by omega, by simp, by simpa [bvs] using Blk.new w 5 []⟩
      have hrd1 : Rd (w.alloc (.cells #[] 5)) A (bvs lm) := hrd.alloc _
      go_enter Try.func125, Try.ntmps125
      go_wp2_with (first
        | ((with_reducible refine at_dst 36 ?_); refine wpList_yield rfl _ (exec_slice_to st24 (.tmp 34) (.tmp 35) rfl A n c m .i64 rfl rfl (by omega)) ?_)
        | ((with_reducible refine at_dst 37 ?_)
           refine wpList_append_bytes bt rfl (.tmp 30) (.tmp 36) rfl w.heap.size _ [] rfl ho A m c lm rfl htl.out hrd1 (by simp; omega) (by simp) ?_
           intro v1 w1 ho1 hg1 _
           have hg' : Blk w1 g 55 [.slice A n c, .bool false] := (hg.alloc _).grown hg1 (fun e => by have := (ho.lt _ e.symm).1; omega)
           have hc2' : w1.cell? ⟨g, 0, none⟩ = some (.slice A n c) := by rw [hg'.cell]; rfl
           have hf2' := hg'.free 0)
        | ((with_reducible refine at_dst 44 ?_); refine wpList_yield rfl _ (exec_slice_from st24 (.tmp 42) (.tmp 43) rfl A n c m .i64 rfl rfl (by omega)) ?_))
      go_ret2
      have hfr1 : Fr (· = g) w w1 := ((Fr.refl _ _).alloc _).grown hg1 (fun k hk => .inr (ho.lt k hk).1)
      have hfr2 : Fr (· = g) w1 (w1.setCell ⟨g, 0, none⟩ (.slice (cutA A c m 1) (n - m) (c - m))) := Fr.setCell (p := ⟨g, 0, none⟩) (Fr.refl (· = g) w1) (.inl rfl) _
      have hfar : ∀ k, v1.ownBlock = some k → k ≠ g := fun k hk e => by have := (ho1.lt k hk).1; omega
      refine ⟨_, rfl, ?_, ⟨cutA A c m 1, n - m, c - m, ?_, ?_⟩, hfr1.trans hfr2⟩
      · have h1 : OwnB w1 w.heap.size 5 v1 lm := by simpa using ho1
        exact h1.grown (grownBy_setCell w1 g 0 _) (fun k hk e => by cases hk; exact hfar g e rfl)
      · exact hg'.set_ 0 _
      · exact (hl.fr (hfr1.trans hfr2) (fun k hk => by cases hk; exact hS)).cut m hm
    · have e1 : takeL (some l) k = [] := by simp only [takeL]; rw [if_neg hin]
      have e2 : takeS (some l) k = none := by simp only [takeS]; rw [if_neg hin]
      have e3 : takeB (some l) k = false := by simp only [takeB]; simpa using hin
      rw [e1, e2, e3]
      clear e1 e2 e3
      rw [hl.len] at hin
      have hfin : ∀ (w' : World), w' = (w.setCell ⟨g, 1, none⟩ (.bool true)).setCell ⟨g, 0, none⟩ (.slice none 0 0) → RfP S w' g none ∧ Fr (· = g) w w' := by
        rintro w' rfl
        exact ⟨(hg.set_ 1 _).set_ 0 _, (Fr.setCell (p := ⟨g, 1, none⟩) (Fr.refl (· = g) w) (.inl rfl) _).trans (Fr.setCell (p := ⟨g, 0, none⟩) (Fr.refl (· = g) _) (.inl rfl) _)⟩
      have HF := Lib.hid hfin
      clear hfin hl hb
      by_cases h0 : k < 0
      · go_enter Try.func125, Try.ntmps125
        go_wp2
        go_ret2
        exact ⟨_, rfl, OwnB.nil _ _ _, HF.out _ rfl⟩
      · have h1 : (n : Int) < k := by omega
        go_enter Try.func125, Try.ntmps125
        go_wp2
        go_ret2
        exact ⟨_, rfl, OwnB.nil _ _ _, HF.out _ rfl⟩

theorem takeB_no {st : Option (List UInt8)} {k : Int} (h : takeB st k = false) : takeL st k = [] := by
  cases st with
  | none => rfl
  | some l =>
    simp only [takeB, decide_eq_false_iff_not] at h
    simp only [takeL]
    rw [if_neg h]
set_option maxRecDepth 100000 in
set_option maxHeartbeats 1000000 in
theorem rnumber_any {S : Nat → Prop} (g : Nat) (st : Option (List UInt8)) (k : Nat) (w : World) (h : RfP S w g st) (hS : S g) (hk : k ≤ 4) (hb : ∀ l, st = some l → l.length ≤ 140737488351232) :
    Calls Try.prog 124 #[.pointer (some ⟨g, 0, none⟩), .int .i64 (k : Int)] w fun e w' => e = .returned (.int .i64 (numL st k : Nat)) ∧ RfP S w' g (takeS st k) ∧ Fr (· = g) w w' := by
  have HT := Lib.hid (fun W hW => rtake_any g st k W hW hS (by omega) hb)
  have hlen := Nat.le_trans (takeL_le st k) hk
  have hno : Hid (takeB st k = false → takeL st k = []) := takeB_no
  unfold numL
  generalize takeL st k = l at *
  generalize takeS st k = st' at *
  generalize takeB st k = ok at *
  go_enter Try.func124, Try.ntmps124
  go_wp2_with (go_at_call 125; refine (HT.out _ h).mono ?_; rintro e w1 ⟨v, rfl, ho1, hr1, hf1⟩; obtain ⟨A, c, rfl, hcl, hcm, hrd⟩ := ho1.rd)
  cases ok with
  | false =>
    have hl0 := hno.out rfl
    subst hl0
    go_loopw [7, 8] (fun x i wr => i = .int .i64 0 ∧ x = .int .i64 0 ∧ w1 = wr) (fun _ i _ => 0)
    case atStart => exact ⟨rfl, rfl, rfl⟩
    case round =>
      obtain ⟨rfl, rfl, rfl⟩ := hrel
      go_wp2
      go_ret
      exact ⟨rfl, hr1, hf1⟩
  | true =>
    go_loopw [7, 8] (fun x i wr => ∃ j : Nat, j ≤ l.length ∧ i = .int .i64 (j : Int) ∧ x = .int .i64 (nOf (l.take j) : Nat) ∧ w1 = wr) (fun _ i _ => l.length - (intOf i).toNat)
    case atStart => exact ⟨0, by omega, by go_num, by simp [nOf], rfl⟩
    case round =>
      obtain ⟨j, hj, rfl, rfl, rfl⟩ := hrel
      by_cases hlt : j < l.length
      · obtain ⟨ad, rfl, hcc⟩ := hrd (by rw [bvs_length]; omega)
        have hc : w1.cell? (ad.add j) = some (.int .u8 ((l[j]).toNat : Int)) := hcc j _ (by rw [bvs_get, List.getElem?_eq_getElem hlt]; rfl)
        have hx := nOf_take_lt l j (by omega)
        have hs := Lib.hid (nOf_take_succ l j hlt)
        have hy : (l[j]).toNat < 256 := UInt8.toNat_lt _
        generalize (l[j]).toNat = y at *
        generalize nOf (l.take j) = x at *
        go_wp2
        go_roundw
        case rel => exact ⟨j + 1, by omega, by go_num, by congr 1; rw [hs.out]; omega, by first | rfl | trivial⟩
        case measure => simp only [intOf]; omega
      · obtain rfl : j = l.length := by omega
        go_wp2
        go_ret
        rw [List.take_length]
        exact ⟨rfl, hr1, hf1⟩
set_option maxRecDepth 100000 in
theorem rdone_any {S : Nat → Prop} (g : Nat) (st : Option (List UInt8)) (w : World) (h : RfP S w g st) :
    Calls Try.prog 48 #[.pointer (some ⟨g, 0, none⟩)] w fun e w' => e = .returned (.bool (doneB st)) ∧ w = w' := by
  cases st with
  | none =>
    have hg : Blk w g 55 [.slice none 0 0, .bool true] := h
    have hc0 : w.cell? ⟨g, 0, none⟩ = some (.slice none 0 0) := by rw [hg.cell]; rfl
    have hc1 : w.cell? ⟨g, 1, none⟩ = some (.bool true) := by rw [hg.cell]; rfl
    go_enter Try.func48, Try.ntmps48
    go_wp2
    go_ret
    exact ⟨rfl, rfl⟩
  | some l =>
    obtain ⟨A, n, c, hg, hl⟩ := h
    have hc0 : w.cell? ⟨g, 0, none⟩ = some (.slice A n c) := by rw [hg.cell]; rfl
    have hc1 : w.cell? ⟨g, 1, none⟩ = some (.bool false) := by rw [hg.cell]; rfl
    have e : doneB (some l) = ((n : Int) == 0) := by simp only [doneB, hl.len]
    rw [e]
    clear hl e
    go_enter Try.func48, Try.ntmps48
    go_wp2
    go_ret
    exact ⟨rfl, rfl⟩
end Go.Proofs.Ytehbahobkgoapaa
