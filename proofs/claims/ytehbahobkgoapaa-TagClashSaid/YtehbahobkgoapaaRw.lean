/- The walk of OctetReader: it says true for every bytes and every script. -/
import Derived.Test.YtehbahobkgoapaaRa
namespace Go.Proofs.Ytehbahobkgoapaa
open Go Go.RowKit
set_option linter.unusedSimpArgs false
set_option linter.unusedVariables false

theorem at52 : AT Try.prog 52 2 := ⟨⟨_, Try.underlying52, rfl⟩, by kernel_rfl⟩
def askC (asks : List (Int × Int)) : List Value := asks.flatMap fun x => [.int .u8 x.1, .int .i64 x.2]
theorem askC_length (asks : List (Int × Int)) : (askC asks).length = asks.length * 2 := by
  induction asks with
  | nil => rfl
  | cons x asks ih =>
    unfold askC at ih ⊢
    rw [List.flatMap_cons, List.length_append, ih]
    simp; omega
theorem askC_at (asks : List (Int × Int)) (i : Nat) (h : i < asks.length) : ((askC asks).drop (i * 2)).take 2 = [.int .u8 (asks[i]).1, .int .i64 (asks[i]).2] := by
  induction asks generalizing i with
  | nil => simp at h
  | cons x asks ih =>
    cases i with
    | zero => rfl
    | succ i =>
      have h1 := ih i (by simpa using h)
      have e : (askC (x :: asks)).drop ((i + 1) * 2) = (askC asks).drop (i * 2) := by
        show (Value.int .u8 x.1 :: Value.int .i64 x.2 :: askC asks).drop ((i + 1) * 2) = _
        rw [show (i + 1) * 2 = i * 2 + 1 + 1 by omega, List.drop_succ_cons, List.drop_succ_cons]
      rw [e, h1]
      rfl
theorem Fr.toBelow {S : Nat → Prop} {a b : World} {B : Nat} (h : Fr S a b) (hS : ∀ k, S k → B ≤ k) (hB : B ≤ a.heap.size) : Below B a b :=
  ⟨h.os, h.tape, h.output, h.size, fun k hk => h.block k (by omega) (fun hs => by have := hS k hs; omega)⟩
theorem lent_rd {w : World} {g : Nat} {l : List UInt8} (h : Blk w g 5 (bvs (lentAll l))) : Rd w (some ⟨g, 0, none⟩) (bvs l) := by
  unfold lentAll at h
  rw [bvs_append] at h
  exact Rd.of_blk0 h

set_option maxRecDepth 100000 in
set_option maxHeartbeats 4000000 in
theorem octet_reader (A : Option Addr) (n c : Nat) (l : List UInt8) (As : Option Addr) (ns cs : Nat) (asks : List (Int × Int)) (w : World) (hr : Rd w A (bvs l)) (hl : l.length = n) (hn : n ≤ 140737488351232)
    (hs : Rd w As (askC asks)) (hsl : asks.length = ns) (hns : ns ≤ 9223372036854775807) (hrng : ∀ x ∈ asks, (0 ≤ x.1 ∧ x.1 ≤ 255) ∧ -9223372036854775808 ≤ x.2 ∧ x.2 ≤ 9223372036854775807) :
    Calls Try.prog 5 #[.slice A n c, .slice As ns cs] w fun e w' => e = .returned (.bool true) ∧ Below w.heap.size w w' := by
  have HL := Lib.hid hl
  have HSL := Lib.hid hsl
  have HR := Lib.hid hrng
  have hll : Hid ((lentAll l).length = n + 5) := by show _ = _; simp [lentAll, hl]
  clear hl hsl hrng
  go_enter Try.func5, Try.ntmps5
  go_upto_region 7 with (first
    | (go_at_call 25; refine (lent A n c l w hr HL.out hn).mono ?_; rintro e w1 ⟨rfl, hb1, hw1, hz1⟩)
    | (go_at_call 41; refine (new_any _ n (n + 5) l w1 (lent_rd hb1) HL.out hn).mono ?_; rintro e w2 ⟨g, A2, c2, rfl, hm2⟩)
    | (go_at_call 40
       have hB2 : Below w.heap.size w w2 := hw1.trans (hm2.bel.mono hw1.size)
       refine (kept_bytes ⟨w.heap.size, 0, none⟩ A n c l w2 (hr.below hB2) HL.out hn (Rd.of_blk0 (es := []) (by simpa using hb1.below hm2.bel hb1.lt))).mono ?_
       rintro e w3 ⟨rfl, hw3⟩
       have hB3 : Below w.heap.size w w3 := hB2.trans (hw3.mono hB2.size))
    | (go_at_call 42
       refine (over_full _ (lentAll l) w3 (.inr ⟨w.heap.size, n, by rw [hll.out], by rw [hll.out]; omega, by rw [hll.out]; unfold maxLen; omega, (hb1.below hm2.bel hb1.lt).below hw3 (hb1.below hm2.bel hb1.lt).lt⟩)).mono ?_
       rintro e w4 ⟨rfl, hf4, hg4, hz4⟩
       have hB4 : Below w.heap.size w w4 := hB3.grown hg4 hB3.size (by intro k hk; cases hk; exact Nat.le_refl _))
    | (go_at_call 43
       refine (rnew_any A n c l w4 (hr.below hB4) HL.out hn).mono ?_
       rintro e w5 ⟨g2, A5, c5, rfl, hm5⟩
       have hB5 : Below w.heap.size w w5 := hB4.trans (hm5.bel.mono hB4.size)))
  -- both readers stand
  have hgr : w3.grownBy w4 (some w.heap.size) := hg4
  have hlt1 : w.heap.size < w1.heap.size := hb1.lt
  have hg1 : w1.heap.size ≤ g := hm2.new
  have hgl : g < w2.heap.size := hm2.blk.lt
  have h23 : w2.heap.size ≤ w3.heap.size := hw3.size
  have h34 : w3.heap.size ≤ w4.heap.size := hgr.size
  have hg2 : w4.heap.size ≤ g2 := hm5.new
  have hg2l : g2 < w5.heap.size := hm5.blk.lt
  obtain ⟨S, hSd⟩ : ∃ S : Nat → Prop, S = fun k => k = g ∨ k = g2 ∨ w5.heap.size ≤ k := ⟨_, rfl⟩
  have hSg : S g := by rw [hSd]; exact .inl rfl
  have hSg2 : S g2 := by rw [hSd]; exact .inr (.inl rfl)
  have hSn : ∀ k, w5.heap.size ≤ k → S k := by intro k hk; rw [hSd]; exact .inr (.inr hk)
  have hSw : ∀ k, S k → w.heap.size ≤ k := by
    intro k hk
    rw [hSd] at hk
    rcases hk with hk | hk | hk <;> omega
  have hS2 : ∀ ad, A2 = some ad → ¬ S ad.block := by
    intro ad e hk
    have := hm2.far ad e
    rw [hSd] at hk
    rcases hk with hk | hk | hk <;> omega
  have hS5 : ∀ ad, A5 = some ad → ¬ S ad.block := by
    intro ad e hk
    have := hm5.far ad e
    rw [hSd] at hk
    rcases hk with hk | hk | hk <;> omega
  have hF35 : Fr (fun k => k = w.heap.size) w2 w5 := ((Fr.of_below hw3).grown hgr (fun k hk => .inl (by cases hk; rfl))).trans (Fr.of_below hm5.bel)
  have hP5 : RdP S w5 g (some l) := by
    refine ⟨A2, n, c2, ?_, HL.out, by have := hm2.cap; rw [HL.out] at this; exact this, hm2.max, hm2.rd.fr hF35 (fun ad e hk => by have := hm2.far ad e; omega), hS2⟩
    have := hm2.blk.fr hF35 (by omega)
    rw [HL.out] at this
    exact this
  have hR5 : RfP S w5 g2 (some l) := by
    refine ⟨A5, n, c5, ?_, HL.out, by have := hm5.cap; rw [HL.out] at this; exact this, hm5.max, hm5.rd, hS5⟩
    have := hm5.blk
    rw [HL.out] at this
    exact this
  have hs5 : Rd w5 As (askC asks) := hs.below hB5
  have hAs : Hid (0 < (askC asks).length → ∀ ad, As = some ad → ad.block < w.heap.size) := by
    intro h0 ad e
    obtain ⟨ad', e', hc⟩ := hs h0
    rw [e] at e'
    cases e'
    have h1 := World.block_lt_of_cell? w _ (hc 0 _ (List.getElem?_eq_getElem h0))
    simpa [Addr.add] using h1
  have hne : g2 ≠ g := by omega
  have hll2 : Hid (∀ m, (some l : Option (List UInt8)) = some m → m.length ≤ 140737488351232) := by intro m e; cases e; rw [HL.out]; exact hn
  clear hSd hS2 hS5 hF35 hm2 hm5 hgr hg4 hf4 hz4 hw3 hw1 hz1 hb1 hB3 hB4 hs hr hll
  go_wp2_with fail
  go_loopw [8] (fun i wr => ∃ k : Nat, k ≤ ns ∧ i = .int .i64 (k : Int) ∧ (∃ st, Pair S wr g g2 st ∧ Hid (∀ m, st = some m → m.length ≤ 140737488351232)) ∧ Fr S w5 wr) (fun i _ => ns - (intOf i).toNat)
  case atStart => exact ⟨0, by omega, by go_num, ⟨some l, ⟨hP5, hR5⟩, hll2⟩, Fr.refl _ _⟩
  case round =>
    obtain ⟨k, hk, rfl, ⟨st, hpr, hle⟩, hfr⟩ := hrel
    obtain ⟨wq, rfl⟩ : ∃ wq : World, wq = wr := ⟨_, rfl⟩
    have hBq : Below w.heap.size w wq := hB5.trans (hfr.toBelow hSw hB5.size)
    by_cases hlt : k < ns
    · have hka : k < asks.length := by rw [HSL.out]; exact hlt
      have hsq : Rd wq As (askC asks) := hs5.fr hfr (fun ad e hk => by
        have h1 := hAs.out (by rw [askC_length]; omega) ad e
        have h2 := hSw _ hk
        omega)
      obtain ⟨ad, rfl, hcc⟩ := hsq (by rw [askC_length]; omega)
      have hcut : Rd wq (some (ad.add (k * 2))) [.int .u8 (asks[k]).1, .int .i64 (asks[k]).2] := by
        have h1 := hsq.cut (k * 2) 2
        rwa [askC_at asks k hka] at h1
      obtain ⟨hx1, hx2⟩ := HR.out asks[k] (List.getElem_mem hka)
      generalize (asks[k]).1 = kd at *
      generalize (asks[k]).2 = kn at *
      have HA := Lib.hid (fun W hW hSz => asked_any (S := S) g g2 st kd kn W hW hSg hSg2 hne hSz hx2 hx1 hle.out)
      go_wp2_with (first
        | ((with_reducible refine at_dst 36 ?_); refine wpList_yield rfl _ (exec_load_rd at52 (.tmp 35) rfl _ _ rfl hcut (by omega) rfl) ?_)
        | (go_at_call 44; refine (HA.out wq hpr (fun j hj => hSn j (by have := hfr.size; omega))).mono ?_; rintro e w6 ⟨rfl, hp6, hf6⟩))
      go_roundw
      case rel => exact ⟨k + 1, by omega, by go_num, ⟨_, hp6, nxt_le hle.out⟩, hfr.trans hf6⟩
      case measure => simp only [intOf]; omega
    · obtain rfl : k = ns := by omega
      obtain ⟨Ar, cr, hr0, hr1⟩ := hpr.r.cells
      have H1 := Lib.hid (fun W hW => left_any (S := S) g st W hW)
      have H2 := Lib.hid (fun W hW => bad_any (S := S) g st W hW)
      have H3 := Lib.hid (fun W hW => done_any (S := S) g st W hW)
      have H4 := Lib.hid (fun W hW => rdone_any (S := S) g2 st W hW)
      have hpd : Pair S wq.drew g g2 st := hpr.fr (T := fun _ => False) ((Fr.refl _ _).drew) id id (fun _ hk => hk.elim)
      generalize leftN st = lf at *
      generalize badB st = bd at *
      generalize doneB st = dn at *
      go_wp2_with fail
      refine rg_begin (fun W => W = wq.drew) [] [1, 10, 19, 21] [0, 2, 3, 4, 5, 6, 1, 7, 8, 9, 11, 12, 13, 14, 10, 15, 16, 17, 18, 20, 19, 21, 22, 23, 24] 0 mixed (by kernel_rfl) (fun _ _ _ _ e hh => ⟨e.symm.trans hh.1, hh.2⟩) ?_
      simp only [pick, List.map_cons, List.map_nil, List.getD_cons_zero, List.getD_cons_succ]
      have hS0 : (fun W => W = wq.drew) _ := rfl
      refine rg_take (v := ?v1_0) rfl rfl hS0 ?y1_0 ?_
      case y1_0 => intro W hW; (try subst hW); go_simp; try with_reducible rfl
      simp only [Act.put, List.setIfInBounds_toArray, List.set_cons_zero, List.set_cons_succ]
      refine rg_take (v := ?v1_2) rfl rfl hS0 ?y1_2 ?_
      case y1_2 => intro W hW; (try subst hW); go_simp; try with_reducible rfl
      simp only [Act.put, List.setIfInBounds_toArray, List.set_cons_zero, List.set_cons_succ]
      refine rg_take (v := ?v1_3) rfl rfl hS0 ?y1_3 ?_
      case y1_3 => intro W hW; (try subst hW); go_simp; try with_reducible rfl
      simp only [Act.put, List.setIfInBounds_toArray, List.set_cons_zero, List.set_cons_succ]
      refine rg_take (v := ?v1_4) rfl rfl hS0 ?y1_4 ?_
      case y1_4 => intro W hW; (try subst hW); go_simp; try with_reducible rfl
      simp only [Act.put, List.setIfInBounds_toArray, List.set_cons_zero, List.set_cons_succ]
      refine rg_take (v := ?v1_5) rfl rfl hS0 ?y1_5 ?_
      case y1_5 => intro W hW; (try subst hW); go_simp; try with_reducible rfl
      simp only [Act.put, List.setIfInBounds_toArray, List.set_cons_zero, List.set_cons_succ]
      refine rg_take (v := ?v1_6) rfl rfl hS0 ?y1_6 ?_
      case y1_6 => intro W hW; (try subst hW); go_simp; try with_reducible rfl
      simp only [Act.put, List.setIfInBounds_toArray, List.set_cons_zero, List.set_cons_succ]
      refine rg_one rfl rfl ?_; intro K hK; go_simp
      refine (H1.out _ hpd.p).mono ?_
      rintro e w6 ⟨rfl, rfl⟩
      refine hK _ _ (fun _ => hS0) ?_; clear hK
      refine rg_take (v := ?v1_7) rfl rfl hS0 ?y1_7 ?_
      case y1_7 => intro W hW; (try subst hW); go_simp; try with_reducible rfl
      simp only [Act.put, List.setIfInBounds_toArray, List.set_cons_zero, List.set_cons_succ]
      refine rg_take (v := ?v1_8) rfl rfl hS0 ?y1_8 ?_
      case y1_8 => intro W hW; (try subst hW); go_simp; try with_reducible rfl
      simp only [Act.put, List.setIfInBounds_toArray, List.set_cons_zero, List.set_cons_succ]
      refine rg_take (v := ?v1_9) rfl rfl hS0 ?y1_9 ?_
      case y1_9 => intro W hW; (try subst hW); go_simp; try with_reducible rfl
      simp only [Act.put, List.setIfInBounds_toArray, List.set_cons_zero, List.set_cons_succ]
      refine rg_take (v := ?v1_11) rfl rfl hS0 ?y1_11 ?_
      case y1_11 => intro W hW; (try subst hW); go_simp; try with_reducible rfl
      simp only [Act.put, List.setIfInBounds_toArray, List.set_cons_zero, List.set_cons_succ]
      refine rg_take (v := ?v1_12) rfl rfl hS0 ?y1_12 ?_
      case y1_12 => intro W hW; (try subst hW); go_simp; try with_reducible rfl
      simp only [Act.put, List.setIfInBounds_toArray, List.set_cons_zero, List.set_cons_succ]
      refine rg_take (v := ?v1_13) rfl rfl hS0 ?y1_13 ?_
      case y1_13 => intro W hW; (try subst hW); go_simp; try with_reducible rfl
      simp only [Act.put, List.setIfInBounds_toArray, List.set_cons_zero, List.set_cons_succ]
      refine rg_take (v := ?v1_14) rfl rfl hS0 ?y1_14 ?_
      case y1_14 => intro W hW; (try subst hW); go_simp; try with_reducible rfl
      simp only [Act.put, List.setIfInBounds_toArray, List.set_cons_zero, List.set_cons_succ]
      refine rg_one rfl rfl ?_; intro K hK; go_simp
      refine (H2.out _ hpd.p).mono ?_
      rintro e w6 ⟨rfl, rfl⟩
      refine hK _ _ (fun _ => hS0) ?_; clear hK
      refine rg_take (v := ?v1_15) rfl rfl hS0 ?y1_15 ?_
      case y1_15 => intro W hW; (try subst hW); go_simp; try with_reducible rfl
      simp only [Act.put, List.setIfInBounds_toArray, List.set_cons_zero, List.set_cons_succ]
      refine rg_take (v := ?v1_16) rfl rfl hS0 ?y1_16 ?_
      case y1_16 => intro W hW; (try subst hW); go_simp; try with_reducible rfl
      simp only [Act.put, List.setIfInBounds_toArray, List.set_cons_zero, List.set_cons_succ]
      refine rg_take (v := ?v1_17) rfl rfl hS0 ?y1_17 ?_
      case y1_17 => intro W hW; (try subst hW); go_simp; try with_reducible rfl
      simp only [Act.put, List.setIfInBounds_toArray, List.set_cons_zero, List.set_cons_succ]
      refine rg_take (v := ?v1_18) rfl rfl hS0 ?y1_18 ?_
      case y1_18 => intro W hW; (try subst hW); go_simp; try with_reducible rfl
      simp only [Act.put, List.setIfInBounds_toArray, List.set_cons_zero, List.set_cons_succ]
      refine rg_take (v := ?v1_20) rfl rfl hS0 ?y1_20 ?_
      case y1_20 => intro W hW; (try subst hW); go_simp; try with_reducible rfl
      simp only [Act.put, List.setIfInBounds_toArray, List.set_cons_zero, List.set_cons_succ]
      refine rg_one rfl rfl ?_; intro K hK; go_simp
      refine (H3.out _ hpd.p).mono ?_
      rintro e w6 ⟨rfl, rfl⟩
      refine hK _ _ (fun _ => hS0) ?_; clear hK
      refine rg_one rfl rfl ?_; intro K hK; go_simp
      refine (H4.out _ hpd.r).mono ?_
      rintro e w6 ⟨rfl, rfl⟩
      refine hK _ _ (fun _ => hS0) ?_; clear hK
      refine rg_take (v := ?v1_22) rfl rfl hS0 ?y1_22 ?_
      case y1_22 => intro W hW; (try subst hW); go_simp; try with_reducible rfl
      simp only [Act.put, List.setIfInBounds_toArray, List.set_cons_zero, List.set_cons_succ]
      refine rg_take (v := ?v1_23) rfl rfl hS0 ?y1_23 ?_
      case y1_23 => intro W hW; (try subst hW); go_simp; try with_reducible rfl
      simp only [Act.put, List.setIfInBounds_toArray, List.set_cons_zero, List.set_cons_succ]
      refine rg_take (v := ?v1_24) rfl rfl hS0 ?y1_24 ?_
      case y1_24 => intro W hW; (try subst hW); go_simp; try with_reducible rfl
      simp only [Act.put, List.setIfInBounds_toArray, List.set_cons_zero, List.set_cons_succ]
      refine rg_done (by kernel_rfl) ?_
      go_wp2_with fail
      go_ret
      exact ⟨rfl, hBq.drew⟩
end Go.Proofs.Ytehbahobkgoapaa
