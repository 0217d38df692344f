/- The contract of law01.asked: one call of a reader beside the reference's. -/
import Derived.Test.YtehbahobkgoapaaRf
import Derived.Test.YtehbahobkgoapaaKic
import Derived.Deep.Cut
import Derived.Deep.CutRange
namespace Go.Proofs.Ytehbahobkgoapaa
open Go Go.RowKit
set_option linter.unusedSimpArgs false
set_option linter.unusedVariables false

def nxt (kind n : Int) (st : Option (List UInt8)) : Option (List UInt8) :=
  if kind = 0 then takeS st 1 else if kind = 1 then takeS st 2 else if kind = 2 then takeS st 4 else if kind = 3 then takeS st n else st
theorem takeS_le {st : Option (List UInt8)} {k : Int} {N : Nat} (h : ∀ l, st = some l → l.length ≤ N) : ∀ l, takeS st k = some l → l.length ≤ N := by
  intro l hl
  cases st with
  | none => cases hl
  | some m =>
    simp only [takeS] at hl
    split at hl
    · cases hl
      have := h m rfl
      simp; omega
    · cases hl
theorem nxt_le {st : Option (List UInt8)} {kind n : Int} {N : Nat} (h : ∀ l, st = some l → l.length ≤ N) : ∀ l, nxt kind n st = some l → l.length ≤ N := by
  unfold nxt
  split
  · exact takeS_le h
  · split
    · exact takeS_le h
    · split
      · exact takeS_le h
      · split
        · exact takeS_le h
        · exact h
theorem Fr.wide {S T : Nat → Prop} {w w' : World} (h : Fr T w w') (hT : ∀ k, T k → S k) : Fr S w w' := ⟨h.os, h.tape, h.output, h.size, fun k hk hs => h.block k hk fun ht => hs (hT k ht)⟩

/-- Two readers that stand alike. -/
structure Pair (S : Nat → Prop) (w : World) (g g2 : Nat) (st : Option (List UInt8)) : Prop where
  p : RdP S w g st
  r : RfP S w g2 st
theorem Pair.fr {S T : Nat → Prop} {w w' : World} {g g2 : Nat} {st : Option (List UInt8)} (h : Pair S w g g2 st) (hf : Fr T w w') (hg : ¬ T g) (hg2 : ¬ T g2) (hT : ∀ k, T k → S k) : Pair S w' g g2 st := ⟨h.p.fr hf hg hT, h.r.fr hf hg2 hT⟩
theorem eqS {S : Nat → Prop} {g : Nat} (hS : S g) : ∀ k, k = g → S k := fun k e => by rw [e]; exact hS

theorem RfP.cells {S : Nat → Prop} {w : World} {g : Nat} {st : Option (List UInt8)} (h : RfP S w g st) : ∃ A c, w.cell? ⟨g, 0, none⟩ = some (.slice A (leftN st) c) ∧ w.cell? ⟨g, 1, none⟩ = some (.bool (badB st)) := by
  cases st with
  | none =>
    have hg : Blk w g 55 [.slice none 0 0, .bool true] := h
    exact ⟨none, 0, by rw [hg.cell]; rfl, by rw [hg.cell]; rfl⟩
  | some l =>
    obtain ⟨A, n, c, hg, hl⟩ := h
    refine ⟨A, c, ?_, by rw [hg.cell]; rfl⟩
    have e : leftN (some l) = n := hl.len
    rw [e, hg.cell]; rfl
theorem OwnB.fr {S : Nat → Prop} {w w' : World} {base E : Nat} {v : Value} {l : List UInt8} (h : OwnB w base E v l) (hf : Fr S w w') (hv : ∀ k, v.ownBlock = some k → ¬ S k) : OwnB w' base E v l := by
  rcases h with h | ⟨g, sp, e, hg, hm, hb⟩
  · exact .inl h
  · exact .inr ⟨g, sp, e, hg, hm, hb.fr hf (hv g (by rw [e]; rfl))⟩
theorem RdP.lt {S : Nat → Prop} {w : World} {g : Nat} {st : Option (List UInt8)} (h : RdP S w g st) : g < w.heap.size := by
  cases st with
  | none => obtain ⟨A, n, c, hb⟩ := h; exact hb.lt
  | some l => obtain ⟨A, n, c, hb, hl⟩ := h; exact hb.lt
theorem RfP.lt {S : Nat → Prop} {w : World} {g : Nat} {st : Option (List UInt8)} (h : RfP S w g st) : g < w.heap.size := by
  cases st with
  | none => exact Blk.lt h
  | some l => obtain ⟨A, n, c, hb, hl⟩ := h; exact hb.lt
set_option maxRecDepth 100000 in
set_option maxHeartbeats 2000000 in
theorem asked_any {S : Nat → Prop} (g g2 : Nat) (st : Option (List UInt8)) (kind n : Int) (w : World) (h : Pair S w g g2 st) (hS : S g) (hS2 : S g2) (hne : g2 ≠ g) (hnew : ∀ k, w.heap.size ≤ k → S k)
    (hn : -9223372036854775808 ≤ n ∧ n ≤ 9223372036854775807) (hkb : 0 ≤ kind ∧ kind ≤ 255) (hb : ∀ l, st = some l → l.length ≤ 140737488351232) :
    Calls Try.prog 44 #[.pointer (some ⟨g, 0, none⟩), .pointer (some ⟨g2, 0, none⟩), .agg #[.int .u8 kind, .int .i64 n]] w fun e w' => e = .returned (.bool true) ∧ Pair S w' g g2 (nxt kind n st) ∧ Fr S w w' := by
  have h0 : Pair S (w.alloc (.cells #[.int .u8 kind, .int .i64 n] 52)) g g2 st := h.fr (T := fun _ => False) (Fr.of_below ((Below.refl _ _).alloc (Nat.le_refl _) _)) id id (fun _ hk => hk.elim)
  have hbx : Blk (w.alloc (.cells #[.int .u8 kind, .int .i64 n] 52)) w.heap.size 52 [.int .u8 kind, .int .i64 n] := Blk.new _ _ _
  have hc0 : (w.alloc (.cells #[.int .u8 kind, .int .i64 n] 52)).cell? ⟨w.heap.size, 0, none⟩ = some (.int .u8 kind) := by rw [hbx.cell]; rfl
  have hc1 : (w.alloc (.cells #[.int .u8 kind, .int .i64 n] 52)).cell? ⟨w.heap.size, 1, none⟩ = some (.int .i64 n) := by rw [hbx.cell]; rfl
  have hF0 : Fr S w (w.alloc (.cells #[.int .u8 kind, .int .i64 n] 52)) := (Fr.refl _ _).alloc _
  have hbg : w.heap.size ≠ g := by have := h.p.lt; omega
  have hbg2 : w.heap.size ≠ g2 := by have := h.r.lt; omega
  have HB := Lib.hid hb
  have HN := Lib.hid hnew
  have hgg : Hid (g ≠ g2) := fun e => hne e.symm
  clear h hb hnew
  go_enter Try.func44, Try.ntmps44
  go_upto_region 1 with fail
  generalize hW : w.alloc (.cells #[.int .u8 kind, .int .i64 n] 52) = wb at *
  have HW := Lib.hid (congrArg (fun W => W.heap.size) hW)
  clear hW
  have HSZ : Hid (wb.heap.size = w.heap.size + 1) := by show _ = _; rw [← HW.out]; simp
  by_cases k0 : kind = 0
  · subst k0
    have hx0 := numL_lt st 1 (by omega)
    have hw64 : wrap64 ((numL st 1 : Nat) : Int) = ((numL st 1 : Nat) : Int) := IntWalk.wrap64_in _ (by omega)
    go_wp2_with (first
      | (go_at_call 49; refine (byte_any g st wb h0.p hS HB.out).mono ?_; rintro e w1 ⟨rfl, hp1, hf1⟩)
      | (go_at_call 124; refine (rnumber_any g2 st 1 w1 (h0.r.fr hf1 hne (eqS hS)) hS2 (by omega) HB.out).mono ?_; rintro e w2 ⟨rfl, hr2, hf2⟩))
    go_ret
    exact ⟨rfl, ⟨hp1.fr hf2 hgg.out (eqS hS2), hr2⟩, (hF0.trans (hf1.wide (eqS hS))).trans (hf2.wide (eqS hS2))⟩
  by_cases k1 : kind = 1
  · subst k1
    go_wp2_with (first
      | (go_at_call 50; refine (u16_any g st wb h0.p hS HB.out).mono ?_; rintro e w1 ⟨rfl, hp1, hf1⟩)
      | (go_at_call 124; refine (rnumber_any g2 st 2 w1 (h0.r.fr hf1 hne (eqS hS)) hS2 (by omega) HB.out).mono ?_; rintro e w2 ⟨rfl, hr2, hf2⟩))
    go_ret
    exact ⟨rfl, ⟨hp1.fr hf2 hgg.out (eqS hS2), hr2⟩, (hF0.trans (hf1.wide (eqS hS))).trans (hf2.wide (eqS hS2))⟩
  by_cases k2 : kind = 2
  · subst k2
    go_wp2_with (first
      | (go_at_call 51; refine (u32_any g st wb h0.p hS HB.out).mono ?_; rintro e w1 ⟨rfl, hp1, hf1⟩)
      | (go_at_call 124; refine (rnumber_any g2 st 4 w1 (h0.r.fr hf1 hne (eqS hS)) hS2 (by omega) HB.out).mono ?_; rintro e w2 ⟨rfl, hr2, hf2⟩))
    go_ret
    exact ⟨rfl, ⟨hp1.fr hf2 hgg.out (eqS hS2), hr2⟩, (hF0.trans (hf1.wide (eqS hS))).trans (hf2.wide (eqS hS2))⟩
  by_cases k3 : kind = 3
  · subst k3
    have HT := Lib.hid (take_any g st n wb h0.p hS hn HB.out)
    have HR := Lib.hid (fun W hW => rtake_any (S := S) g2 st n W hW hS2 hn HB.out)
    generalize hTL : takeL st n = l at *
    clear hTL
    go_wp2_with (first
      | (go_at_call 52; refine HT.out.mono ?_; rintro e w1 ⟨v, rfl, ho1, hp1, hf1⟩
         have hc1' : w1.cell? ⟨w.heap.size, 1, none⟩ = some (.int .i64 n) := by rw [(hbx.fr hf1 hbg).cell]; rfl
         have hrf1 := h0.r.fr hf1 hne (eqS hS))
      | (go_at_call 125; refine (HR.out w1 hrf1).mono ?_; rintro e w2 ⟨v2, rfl, ho2, hr2, hf2⟩
         have ho12 : OwnB w2 wb.heap.size 5 v l := ho1.fr hf2 (fun k hk e => by have := (ho1.lt k hk).1; have := h0.r.lt; omega)
         obtain ⟨sp, hfull, hown⟩ := ho12.full
         have hlo := ho12.lt
         obtain ⟨A1, c1, rfl, hcl1, hcm1, hrd1⟩ := ho12.rd
         obtain ⟨A2, c2, rfl, hcl2, hcm2, hrd2⟩ := ho2.rd)
      | (go_at_call 33; refine (same_bytes A1 l.length c1 l A2 l.length c2 l w2 hrd1 rfl hrd2 rfl).mono ?_; rintro e w3 ⟨rfl, rfl⟩; rw [beq_self_eq_true])
      | (go_at_call 42; refine (over_full _ _ w2 hfull).mono ?_; rintro e w3 ⟨rfl, hf3, hg3, hs3⟩))
    go_ret
    have hF3 : Fr (fun k => wb.heap.size ≤ k) w2 w3 := (Fr.refl _ _).grown hg3 (fun k hk => .inl (hlo k hk).1)
    have hT : ∀ k, wb.heap.size ≤ k → S k := fun k hk => HN.out k (by have := HSZ.out; omega)
    have hpl := h0.p.lt
    have hrl := h0.r.lt
    exact ⟨rfl, ⟨(hp1.fr hf2 hgg.out (eqS hS2)).fr hF3 (by omega) hT, hr2.fr hF3 (by omega) hT⟩, ((hF0.trans (hf1.wide (eqS hS))).trans (hf2.wide (eqS hS2))).trans (hF3.wide hT)⟩
  have HE : Hid (nxt kind n st = st) := by show _ = _; unfold nxt; rw [if_neg k0, if_neg k1, if_neg k2, if_neg k3]
  obtain ⟨Ar, cr, hr0, hr1⟩ := h0.r.cells
  by_cases k4 : kind = 4
  · subst k4
    clear k0 k1 k2 k3
    have HLf := Lib.hid (fun W (hW : RdP S W g st) => left_any g st W hW)
    generalize leftN st = lf at *
    go_wp2_with fail
    refine rg_begin (fun W => W = wb.drew) [] [1] [0, 2, 3, 4, 5, 6, 1, 7, 8] 0 mixed (by kernel_rfl) (fun _ _ _ _ e hh => ⟨e.symm.trans hh.1, hh.2⟩) ?_
    simp only [pick, List.map_cons, List.map_nil, List.getD_cons_zero, List.getD_cons_succ]
    have hS0 : (fun W => W = wb.drew) _ := rfl
    refine rg_take (v := ?v1_0) rfl rfl hS0 ?y1_0 ?_
    case y1_0 => intro W hW; (try subst hW); go_simp; try with_reducible rfl
    simp only [Act.put, List.setIfInBounds_toArray, List.set_cons_zero, List.set_cons_succ]
    refine rg_take (v := ?v1_2) rfl rfl hS0 ?y1_2 ?_
    case y1_2 => intro W hW; (try subst hW); go_simp; try with_reducible rfl
    simp only [Act.put, List.setIfInBounds_toArray, List.set_cons_zero, List.set_cons_succ]
    refine rg_take (v := ?v1_3) rfl rfl hS0 ?y1_3 ?_
    case y1_3 => intro W hW; (try subst hW); go_simp; try with_reducible rfl
    simp only [Act.put, List.setIfInBounds_toArray, List.set_cons_zero, List.set_cons_succ]
    refine rg_take (v := ?v1_4) rfl rfl hS0 ?y1_4 ?_
    case y1_4 => intro W hW; (try subst hW); go_simp; try with_reducible rfl
    simp only [Act.put, List.setIfInBounds_toArray, List.set_cons_zero, List.set_cons_succ]
    refine rg_take (v := ?v1_5) rfl rfl hS0 ?y1_5 ?_
    case y1_5 => intro W hW; (try subst hW); go_simp; try with_reducible rfl
    simp only [Act.put, List.setIfInBounds_toArray, List.set_cons_zero, List.set_cons_succ]
    refine rg_take (v := ?v1_6) rfl rfl hS0 ?y1_6 ?_
    case y1_6 => intro W hW; (try subst hW); go_simp; try with_reducible rfl
    simp only [Act.put, List.setIfInBounds_toArray, List.set_cons_zero, List.set_cons_succ]
    refine rg_one rfl rfl ?_; intro K hK; go_simp
    refine (HLf.out _ (h0.p.fr (T := fun _ => False) ((Fr.refl _ _).drew) id (fun _ hk => hk.elim))).mono ?_
    rintro e w1 ⟨rfl, rfl⟩
    refine hK _ _ (fun _ => hS0) ?_; clear hK
    refine rg_take (v := ?v1_7) rfl rfl hS0 ?y1_7 ?_
    case y1_7 => intro W hW; (try subst hW); go_simp; try with_reducible rfl
    simp only [Act.put, List.setIfInBounds_toArray, List.set_cons_zero, List.set_cons_succ]
    refine rg_take (v := ?v1_8) rfl rfl hS0 ?y1_8 ?_
    case y1_8 => intro W hW; (try subst hW); go_simp; try with_reducible rfl
    simp only [Act.put, List.setIfInBounds_toArray, List.set_cons_zero, List.set_cons_succ]
    refine rg_done (by kernel_rfl) ?_
    go_wp2_with fail
    go_ret
    exact ⟨rfl, h0.fr (T := fun _ => False) ((Fr.refl _ _).drew) id id (fun _ hk => hk.elim), hF0.drew⟩
  by_cases k5 : kind = 5
  · subst k5
    clear k0 k1 k2 k3 k4
    have HBd := Lib.hid (fun W (hW : RdP S W g st) => bad_any g st W hW)
    generalize badB st = bd at *
    go_wp2_with fail
    refine rg_begin (fun W => W = wb.drew) [] [1] [0, 2, 3, 4, 5, 1, 6, 7] 0 mixed (by kernel_rfl) (fun _ _ _ _ e hh => ⟨e.symm.trans hh.1, hh.2⟩) ?_
    simp only [pick, List.map_cons, List.map_nil, List.getD_cons_zero, List.getD_cons_succ]
    have hS0 : (fun W => W = wb.drew) _ := rfl
    refine rg_take (v := ?v2_0) rfl rfl hS0 ?y2_0 ?_
    case y2_0 => intro W hW; (try subst hW); go_simp; try with_reducible rfl
    simp only [Act.put, List.setIfInBounds_toArray, List.set_cons_zero, List.set_cons_succ]
    refine rg_take (v := ?v2_2) rfl rfl hS0 ?y2_2 ?_
    case y2_2 => intro W hW; (try subst hW); go_simp; try with_reducible rfl
    simp only [Act.put, List.setIfInBounds_toArray, List.set_cons_zero, List.set_cons_succ]
    refine rg_take (v := ?v2_3) rfl rfl hS0 ?y2_3 ?_
    case y2_3 => intro W hW; (try subst hW); go_simp; try with_reducible rfl
    simp only [Act.put, List.setIfInBounds_toArray, List.set_cons_zero, List.set_cons_succ]
    refine rg_take (v := ?v2_4) rfl rfl hS0 ?y2_4 ?_
    case y2_4 => intro W hW; (try subst hW); go_simp; try with_reducible rfl
    simp only [Act.put, List.setIfInBounds_toArray, List.set_cons_zero, List.set_cons_succ]
    refine rg_take (v := ?v2_5) rfl rfl hS0 ?y2_5 ?_
    case y2_5 => intro W hW; (try subst hW); go_simp; try with_reducible rfl
    simp only [Act.put, List.setIfInBounds_toArray, List.set_cons_zero, List.set_cons_succ]
    refine rg_one rfl rfl ?_; intro K hK; go_simp
    refine (HBd.out _ (h0.p.fr (T := fun _ => False) ((Fr.refl _ _).drew) id (fun _ hk => hk.elim))).mono ?_
    rintro e w1 ⟨rfl, rfl⟩
    refine hK _ _ (fun _ => hS0) ?_; clear hK
    refine rg_take (v := ?v2_6) rfl rfl hS0 ?y2_6 ?_
    case y2_6 => intro W hW; (try subst hW); go_simp; try with_reducible rfl
    simp only [Act.put, List.setIfInBounds_toArray, List.set_cons_zero, List.set_cons_succ]
    refine rg_take (v := ?v2_7) rfl rfl hS0 ?y2_7 ?_
    case y2_7 => intro W hW; (try subst hW); go_simp; try with_reducible rfl
    simp only [Act.put, List.setIfInBounds_toArray, List.set_cons_zero, List.set_cons_succ]
    refine rg_done (by kernel_rfl) ?_
    go_wp2_with fail
    go_ret
    exact ⟨rfl, h0.fr (T := fun _ => False) ((Fr.refl _ _).drew) id id (fun _ hk => hk.elim), hF0.drew⟩
  have HD1 := Lib.hid (done_any g st wb h0.p)
  have HD2 := Lib.hid (rdone_any g2 st wb h0.r)
  generalize doneB st = dn at *
  go_wp2_with (first
    | (go_at_call 47; refine HD1.out.mono ?_; rintro e w1 ⟨rfl, rfl⟩)
    | (go_at_call 48; refine HD2.out.mono ?_; rintro e w1 ⟨rfl, rfl⟩))
  go_ret
  exact ⟨rfl, by rw [HE.out]; exact h0, hF0⟩
end Go.Proofs.Ytehbahobkgoapaa
