import Derived.Test.YtkjjdgnkelchfaaGreatPTU18
set_option linter.unusedSimpArgs false
set_option linter.unusedVariables false
set_option maxRecDepth 100000
set_option maxHeartbeats 16000000
namespace Go.Proofs.YtkjjdgnkelchfaaGreat
open Go Go.RowKit
theorem BrS.old {w0 : World} {ps : Sv} {bs : List Brv} (h : BrS w0 ps bs) : BrD (Old w0) w0 ps bs := ⟨h, fun hne ad e => by
  obtain ⟨ad', e', hc⟩ := h.rd (by rw [xbx Brv.len]; have := List.length_pos_iff.2 hne; omega); rw [e] at e'; cases e'; have := World.block_lt_of_cell? _ _ (hc 0 _ (List.getElem?_eq_getElem (by rw [xbx Brv.len]; have := List.length_pos_iff.2 hne; omega)))
  rwa [show (ad.add 0).block = ad.block by unfold Addr.add; split <;> rfl] at this⟩
def xkz (es : List (D32 × D32)) (ls : List (List UInt8)) : Bool := (List.range ls.length).all fun i => decide ((ls.getD i []).length ≤ 1024) && ((tagV (ls.getD i [])).l == ((es.map Prod.snd).getD i D32.z).l)
theorem xe8 (es : List (D32 × D32)) (ls : List (List UInt8)) : xkz es ls = true ↔ ∀ i, i < ls.length → (ls.getD i []).length ≤ 1024 ∧ (tagV (ls.getD i [])).l = ((es.map Prod.snd).getD i D32.z).l := by
  unfold xkz; simp only [List.all_eq_true, List.mem_range, Bool.and_eq_true, decide_eq_true_eq, beq_iff_eq]
def rdS (fr til key : D32) (bs : List Brv) (ls : List (List UInt8)) : Option SpD :=
  if 65536 < bs.length ∨ 256 < ls.length then none
  else if cmpZ (nOf til.l) (nOf fr.l) < 0 then none
  else match plS fr til key 256 bs D32.z 0 with
    | none => none
    | some r => if (r.rest.isEmpty && decide (r.ents.length = ls.length) && xkz r.ents ls) = true then some r else none
structure SpE (N : Nat) (w : World) (fr til : D32) (r : SpD) (gr : Nat) (s : Srd) : Prop where
  n : N ≤ gr
  rd : Rd w (some ⟨gr, 0, none⟩) s.cells
  k : KyS w s.keys.A s.keys.n s.keys.c (r.ents.map Prod.fst)
  kf : ∀ ad, s.keys.A = some ad → N ≤ ad.block
  sd : Sds w s.sides r.sides.reverse
  sf : ∀ ad, s.sides.A = some ad → N ≤ ad.block
  fr : s.fr = fr
  til : s.til = til
  nod : s.nod = finD ⟨0, D32.z, D32.z, D32.z, D32.z⟩ r.fin
def RsO (N : Nat) (w0 : World) (q : Option SpD) (fr til : D32) (e : Ending) (w' : World) : Prop := ∃ (h : D32) (rp : Value) (er : Int), e = .returned (.tuple #[h.a, rp, .int .i64 er]) ∧ Below N w0 w' ∧
  ((er = 0 ∧ ∃ r gr s, q = some r ∧ h = r.dig ∧ rp = .pointer (some ⟨gr, 0, none⟩) ∧ SpE N w' fr til r gr s) ∨ ((er == 0) = false ∧ q = none))
def srd0 (fr til key : D32) (ps : Sv) : Srd := ⟨fr, til, ps, tagE, Sv.nil, Sv.nil, key, Sv.nil, 0, D32.z, D32.z, D32.z, D32.z⟩
theorem bd138_S (fr til key : D32) (ps : Sv) : Instr.fill (fun x => [(0, 64), (64, 1), (65, 32), (97, 1), (98, 1), (99, 32), (131, 130)].toArray[x]?) (Str.z.cells ++ ([Value.slice none 0 0] ++ (D32.z.c ++ ([Value.slice none 0 0] ++ ([Value.slice none 0 0] ++ (D32.z.c ++ (Prv.z.cells))))))).toArray [(0, .agg (⟨fr, til⟩ : Str).cells.toArray), (1, ps.v), (2, .agg tagE.c.toArray), (5, .agg key.c.toArray)] = some (srd0 fr til key ps).cells.toArray := by
  have h := bd138_19 ⟨fr, til⟩ ps tagE key; rw [Srd.built] at h; exact h
theorem xp2 (W0 : World) (D : Nat → Prop) (fr til key : D32) (gr : Nat) (X : List (Nat × Nat × List Value)) (ps : Sv) (bs : List Brv) (w : World) (hB : BrD D W0 ps bs) (hb : bs.length ≤ 65536)
    (H : Loc W0 D ((gr, 138, (srd0 fr til key ps).cells) :: X) w) :
    Calls Tryz.prog 113 #[.pointer (some ⟨gr, 0, none⟩), D32.z.a, .int .i64 0] w (PsO W0 D X gr fr til key [] [] [] bs.length ⟨0, D32.z, D32.z, D32.z, D32.z⟩ (plS fr til key 256 bs D32.z 0)) :=
  xp1 W0 D fr til key gr 256 0 X (srd0 fr til key ps) bs [] [] [] [] [] [] D32.z w rfl hB ⟨Gw.nil 24 32, Gw.nil 23 32, Gw.nil 23 32, rfl, rfl, rfl, rfl⟩ ⟨by show 0 + _ ≤ _; omega, by show 0 + _ ≤ _; omega, by show 0 + _ ≤ _; omega⟩ H
section
variable {w w' : World}
theorem xk0 (fr til key : D32) (sp : Spv) (bs : List Brv) (lvs : List (List UInt8)) (w : World) (hB : BrS w sp.parts bs) (hV : TxR 0 w sp.vals lvs) : Calls Tryz.prog 62 #[fr.a, til.a, .agg sp.cells.toArray, key.a] w (RsO w.heap.size w (rdS fr til key bs lvs) fr til) := by
  have HBS := hZ hB; have HBL := hZ hB.len; have HTX := hZ hV; have HVL := hZ hV.len; clear hB hV; have HL := Loc.start w; obtain ⟨w0, rfl⟩ := eW w; obtain ⟨q, hq⟩ : ∃ q, rdS fr til key bs lvs = q := ⟨_, rfl⟩; rw [hq]; have HQ := hZ hq; clear hq; have CC := fun u => hZ (xcw u til fr)
  obtain ⟨cm, hcm⟩ : ∃ cm, cmpZ (nOf til.l) (nOf fr.l) = cm := ⟨_, rfl⟩; simp only [hcm] at CC; have HCM := hZ hcm; clear hcm; go_enter Tryz.func62, Tryz.ntmps62; go_upto_region 0 with fail; refine Xcr ?_; clear HL; intro g4 g5 w HL; refine X5 ?_; refine Xdy ?_; clear HL; intro g6 g7 w HL; refine X5 ?_; refine xah zr23 rfl rfl HL ?_; clear HL; intro g8 w HL; refine X1j ?_; by_cases hp : 65536 < sp.parts.n
  · have k3 : decide ((65536 : Int) < (sp.parts.n : Int)) = true := by simp; omega
    go_upto_region 1 with fail; refine Xv ?_; refine Xl3 ?_; refine X5 ?_; refine Xl4 ?_; refine Xgf ?_; refine xaa rfl _ (xa4 (b := true) _ _ rfl _ _ rfl rfl k3) ?_; refine X8t ?_; go_upto_region 2 with fail; refine Xi2 ?_; refine Xiy ?_; clear HL; intro w HL; go_wp2_with fail; refine Xf ?_; refine Xl5 ?_; refine ⟨D32.z, .pointer none, 4, rfl, HL.below, .inr ⟨rfl, ?_⟩⟩; rw [← HQ.out]; unfold rdS; rw [if_pos (by have h1 := HBL.out; have h2 := HVL.out; omega)]
  have k3 : decide ((65536 : Int) < (sp.parts.n : Int)) = false := by simp; omega
  by_cases hv : 256 < sp.vals.n
  · have k8 : decide ((256 : Int) < (sp.vals.n : Int)) = true := by simp; omega
    go_upto_region 1 with fail; refine Xv ?_; refine Xl3 ?_; refine X5 ?_; refine Xl4 ?_; refine Xgf ?_; refine Xl6 ?_; refine X17 ?_; refine xab rfl _ (xaf xmp _ rfl _ rfl) ?_; refine X5 ?_; refine Xl7 ?_; refine X5 ?_; refine xab rfl _ (xa8 Tryz.underlying50 _ rfl _ _ _ rfl) ?_; refine X5 ?_; refine xab rfl _ (xa4 (b := true) _ _ rfl _ _ rfl rfl k8) ?_; refine X1v ?_; go_upto_region 2 with fail; refine Xi2 ?_; refine Xiy ?_; clear HL; intro w HL; go_wp2_with fail; refine Xf ?_; refine Xl5 ?_; refine ⟨D32.z, .pointer none, 4, rfl, HL.below, .inr ⟨rfl, ?_⟩⟩; rw [← HQ.out]; unfold rdS; rw [if_pos (by have h1 := HBL.out; have h2 := HVL.out; omega)]
  have k8 : decide ((256 : Int) < (sp.vals.n : Int)) = false := by simp; omega
  go_upto_region 1 with fail; refine Xv ?_; refine Xl3 ?_; refine X5 ?_; refine Xl4 ?_; refine Xgf ?_; refine Xl6 ?_; refine X17 ?_; refine xab rfl _ (xaf xmp _ rfl _ rfl) ?_; refine X5 ?_; refine Xl7 ?_; refine X5 ?_; refine xab rfl _ (xa8 Tryz.underlying50 _ rfl _ _ _ rfl) ?_; refine X5 ?_; refine xab rfl _ (xa4 (b := false) _ _ rfl _ _ rfl rfl k8) ?_; refine X1v ?_; by_cases hc0 : cm < 0
  · have kc : decide (cm < 0) = true := by simpa using hc0
    go_upto_region 3 with fail; refine X9d ?_; refine X5 ?_; refine Xen ?_; refine X57 ?_; intro K hK; refine Xj8 ?_; refine Xgm ?_; clear hK K; intro w HL; refine xaa rfl _ (xcj _ _ rfl _ _ rfl rfl kc) ?_; refine X1c ?_; go_upto_region 4 with fail; refine Xi2 ?_; refine Xiy ?_; clear HL; intro w HL; go_wp2_with fail; refine Xf ?_; refine Xl5 ?_; refine ⟨D32.z, .pointer none, 2, rfl, HL.below, .inr ⟨rfl, ?_⟩⟩; rw [← HQ.out]; unfold rdS; rw [if_neg (by have h1 := HBL.out; have h2 := HVL.out; omega), HCM.out, if_pos hc0]
  have kc : decide (cm < 0) = false := by simpa using hc0
  have hbl2 : bs.length ≤ 65536 := by have := HBL.out; omega
  have HQ2 : Hid ((match plS fr til key 256 bs D32.z 0 with
    | none => none
    | some r => if (r.rest.isEmpty && decide (r.ents.length = lvs.length) && xkz r.ents lvs) = true then some r else none) = q) := hZ (by
    rw [← HQ.out]; unfold rdS
    rw [if_neg (by have h1 := HBL.out; have h2 := HVL.out; omega), HCM.out, if_neg hc0])
  clear HQ hc0; go_upto_region 3 with fail; refine X9d ?_; refine X5 ?_; refine Xen ?_; refine X57 ?_; intro K hK; refine Xj8 ?_; refine Xgm ?_; clear hK K; intro w HL; refine xaa rfl _ (xcj _ _ rfl _ _ rfl rfl kc) ?_; refine X1c ?_; go_upto_region 5 with fail; refine rB (Loc.P HL) [] [5, 8] [0, 1, 2, 3, 4, 6, 5, 7, 8, 9] 0 ?_; refine X37 ?_; intro HL; refine Xkv ?_; refine X5 ?_; refine xac rfl rfl HL (fun W hW => xan ag24 hW _ rfl _ rfl _ _ (.tail _ (.tail _ (.tail _ (.head _)))) (D32.cl _)) ?_; refine X5 ?_; refine xac rfl rfl HL (fun W hW => xbf bs136 _ rfl _ (by exact bd136_18 fr til)) ?_; refine X5 ?_; refine xac rfl rfl HL (fun W hW => xaf fa52_0 _ rfl _ rfl) ?_; refine X5 ?_; refine xac rfl rfl HL (fun W hW => xag sc42 hW _ rfl _ _ rfl _ _ _ (.tail _ (.tail _ (.head _))) (Spv.g_parts _)) ?_; refine X5 ?_; refine X61 ?_
  refine Xk ?_; intro K hK; refine Xa8 ?_; refine X1z ?_; refine Xa9 ?_; refine X6s ?_; clear hK K; intro w HL; refine xac rfl rfl HL (fun W hW => xbf bs138 _ rfl _ (by exact bd138_S fr til key sp.parts)) ?_; refine Xk ?_; intro K hK; refine xri _ rfl HL (srd0 fr til key sp.parts).cells rfl ?_; clear HL; intro gr w HX; have HL := HX.drop _ (sB _ _); refine Xa0 ?_; clear hK K; clear HL; have HL := HX; clear HX; have hBRD := HBS.out.old; go_upto_region 6 with fail; refine X14 ?_; refine Xc2 ?_; refine X57 ?_; intro K hK; refine xad cf113 rfl _ rfl ?_; refine X1z ?_; (with_reducible refine (xp2 w0 (Old w0) fr til key gr [(g8, 23, D32.z.c), (g7, 24, key.c), (g6, 52, sp.cells), (g5, 24, til.c), (g4, 24, fr.c)] sp.parts bs _ hBRD hbl2 HL).mono ?_); rintro e w ⟨h, ok, s1, bs1, KL, VL, SL, Gk, Gd, Gs, rfl, hB1, hR1, hS1, hkl, hvl, hsl, HL2, hpl⟩; clear HL
  have HL := Loc.outS (X := []) [(g8, 23, D32.z.c), (g7, 24, key.c), (g6, 52, sp.cells), (g5, 24, til.c), (g4, 24, fr.c)] HL2; clear HL2; simp only [qm, qn] at HL; refine X5c ?_; clear hK K; refine Xhy ?_; clear HL; intro g12 w HL; refine X93 ?_; clear HL; intro w HL; have hsl2 : SL.length ≤ 65536 := by have h : SL.length ≤ 0 + (bs.length - bs1.length) := hsl; omega
  have HPL := hZ hpl; have HBL1 := hZ hB1.s.len; have HKL1 := hZ hS1.k.len; clear hpl hR1 hkl hvl hsl
  cases ok with
  | false =>
    go_upto_region 7 with fail; refine Xl8 ?_; refine X39 ?_; intro HL; refine Xbl ?_; refine Xew ?_; refine X7n ?_; refine Xew ?_; refine X7i ?_; refine X7g ?_; refine X6t ?_; go_upto_region 8 with fail; refine Xit ?_; refine Xes ?_; clear HL; intro w HL; go_wp2_with fail; refine Xf ?_; refine Xl9 ?_; refine ⟨D32.z, .pointer none, 11, rfl, HL.below, .inr ⟨rfl, ?_⟩⟩; rw [← HQ2.out]; rcases HPL.out with ⟨h1, _⟩ | ⟨_, h1⟩
    · cases h1
    · rw [h1]
  | true =>
    obtain ⟨r, hr, hh, hbr, hkr, hvr, hsr, hnr⟩ : ∃ r, plS fr til key 256 bs D32.z 0 = some r ∧ h = r.dig ∧ bs1 = r.rest ∧ KL = [] ++ r.ents.map Prod.fst ∧ VL = [] ++ r.ents.map Prod.snd ∧ SL = [] ++ r.sides ∧ s1.nod = finD ⟨0, D32.z, D32.z, D32.z, D32.z⟩ r.fin := by
      rcases HPL.out with ⟨_, h1⟩ | ⟨h1, _⟩
      · exact h1
      · cases h1
    rw [List.nil_append] at hkr hvr hsr; have HQ3 : Hid ((if (r.rest.isEmpty && decide (r.ents.length = lvs.length) && xkz r.ents lvs) = true then some r else none) = q) := hZ (by rw [← HQ2.out, hr]); have HH := hZ hh; have HBR := hZ hbr; have HKR := hZ hkr; have HVR := hZ hvr; have HSR := hZ hsr; have HNR := hZ hnr; clear HQ2 HPL hr hh hbr hkr hvr hsr hnr; by_cases hrest : 0 < s1.rest.n
    · have k10 : decide ((0 : Int) < (s1.rest.n : Int)) = true := by simp; omega
      go_upto_region 7 with fail; refine Xl8 ?_; refine X39 ?_; intro HL; refine Xb9 ?_; refine X6k ?_; refine X3a ?_; refine Xla ?_; refine X5 ?_; refine Xlb ?_; refine X5 ?_; refine Xlc ?_; refine X5 ?_; refine xac rfl rfl HL (fun W hW => xa4 (b := true) _ _ rfl _ _ rfl rfl k10) ?_; refine X3f ?_; refine Xew ?_; refine X7i ?_; refine X7g ?_; refine X6t ?_; go_upto_region 8 with fail; refine Xit ?_; refine Xes ?_; clear HL; intro w HL; go_wp2_with fail; refine Xf ?_; refine Xl9 ?_; refine ⟨D32.z, .pointer none, 11, rfl, HL.below, .inr ⟨rfl, ?_⟩⟩; rw [← HQ3.out]; rw [if_neg]; have h1 := HBL1.out; have h2 : r.rest.length = s1.rest.n := by rw [← HBR.out]; exact h1
      have h3 : r.rest.isEmpty = false := by
        cases hr : r.rest with
        | nil => rw [hr] at h2; simp only [qs] at h2; omega
        | cons x xs => rfl
      rw [h3]; simp
    have k10 : decide ((0 : Int) < (s1.rest.n : Int)) = false := by simp; omega
    have HE0 : Hid (r.rest.isEmpty = true) := hZ (by
      have h1 := HBL1.out; rw [HBR.out] at h1; have h2 : r.rest = [] := List.eq_nil_of_length_eq_zero (by omega)
      rw [h2]; rfl)
    have HKN : Hid (s1.keys.n = r.ents.length) := hZ (by
      have h1 := HKL1.out; rw [HKR.out, List.length_map] at h1
      exact h1)
    clear hrest; by_cases hkn : s1.keys.n = sp.vals.n
    · have k15 : ((s1.keys.n : Int) == (sp.vals.n : Int)) = !false := by simp [hkn]
      go_upto_region 7 with fail; refine Xl8 ?_; refine X39 ?_; intro HL; refine Xb9 ?_; refine X6k ?_; refine X3a ?_; refine Xla ?_; refine X5 ?_; refine Xlb ?_; refine X5 ?_; refine Xlc ?_; refine X5 ?_; refine Xld ?_; refine X6k ?_; refine Xjv ?_; refine X5 ?_; refine Xle ?_; refine X5 ?_; refine Xja ?_; refine X5 ?_; refine Xlf ?_; refine X5 ?_; refine Xlg ?_; refine Xlh ?_; refine X5 ?_; refine xac rfl rfl HL (fun W hW => xbi (b := false) _ _ rfl _ _ rfl rfl k15) ?_; refine X3g ?_; go_upto_region 9 with fail; refine Xv ?_; refine Xli ?_; refine X5 ?_; refine xaa rfl _ (xag sc50 HL _ rfl _ _ rfl _ _ _ (.tail _ (.tail _ (.tail _ (.head _)))) (Spv.g_vals _)) ?_; refine X5 ?_; refine Xcz ?_; refine X1h ?_; have HEN : Hid (r.ents.length = lvs.length) := hZ (by have h1 := HKN.out; have h2 := HVL.out; omega)
      have HVLN : Hid (VL.length = r.ents.length) := hZ (by rw [HVR.out, List.length_map]); clear hkn; go_wp2_with fail
      go_loopw [74] (fun z wr => ∃ i : Nat, i ≤ sp.vals.n ∧ z = .int .i64 (i : Int) ∧ (∀ j, j < i → (lvs.getD j []).length ≤ 1024 ∧ (tagV (lvs.getD j [])).l = ((r.ents.map Prod.snd).getD j D32.z).l) ∧ Loc w0 (Old w0) ((g12, 23, h.c) :: (g8, 23, D32.z.c) :: (g7, 24, key.c) :: (g6, 52, sp.cells) :: (g5, 24, til.c) :: (g4, 24, fr.c) :: SX gr s1 Gk Gd Gs []) wr) (fun z _ => (sp.vals.n - intOf z).toNat)
      case atStart => exact ⟨0, Nat.zero_le _, rfl, fun j hj => absurd hj (Nat.not_lt_zero _), HL⟩
      case round =>
        clear HL; obtain ⟨i, hi, rfl, hz, HL⟩ := hrel; obtain ⟨w, rfl⟩ := eW wr; have HZ := hZ hz; clear hz; by_cases hlt : i < sp.vals.n
        · have k0 : decide ((i : Int) < (sp.vals.n : Int)) = true := by simp; omega
          refine Xaa ?_; intro HI; have hil : i < lvs.length := by have := HVL.out; omega
          obtain ⟨ad, sv, hA, _, hE, hT, _⟩ := HTX.out.at_ i hil; have HE := hZ hE; have HT := hZ hT; have HTL := hZ hT.len; have HSV : Hid (sp.vals.v = .slice (some ad) sp.vals.n sp.vals.c) := hZ (by unfold Sv.v; rw [hA]); have hiv : i < VL.length := by have h1 := HVLN.out; have h2 := HEN.out; omega
          have hdn : s1.digs.n = VL.length := hS1.v.len; have hsd : ∀ (W : World), Loc w0 (Old w0) ((g12, 23, h.c) :: (g8, 23, D32.z.c) :: (g7, 24, key.c) :: (g6, 52, sp.cells) :: (g5, 24, til.c) :: (g4, 24, fr.c) :: SX gr s1 Gk Gd Gs []) W → Sds W s1.digs VL := fun W hW => ⟨hS1.v.rdm (fun x hx => by simp [hx]) hW, hdn.symm, hS1.v.cap.1⟩
          obtain ⟨ad2, hA2, _⟩ := (hsd _ HL).at_ i hiv; have HSD : Hid (s1.digs.v = .slice (some ad2) VL.length s1.digs.c) := hZ (by unfold Sv.v; rw [hA2, hdn])
          have hrd2 : ∀ (W : World), Loc w0 (Old w0) ((g12, 23, h.c) :: (g8, 23, D32.z.c) :: (g7, 24, key.c) :: (g6, 52, sp.cells) :: (g5, 24, til.c) :: (g4, 24, fr.c) :: SX gr s1 Gk Gd Gs []) W → Rd W (some (ad2.add (i * 32))) VL[i].c := by
            intro W hW; obtain ⟨ad3, e3, h3⟩ := (hsd W hW).at_ i hiv; rw [hA2] at e3; cases e3; exact h3
          have hvd : (r.ents.map Prod.snd).getD i D32.z = VL[i] := by
            have e := HVR.out; subst e; rw [List.getD_eq_getElem?_getD, List.getElem?_eq_getElem hiv, Option.getD_some]
          have HVD := hZ hvd; clear hA hE hT hA2 hvd hsd hdn; generalize VL[i] = vd at hrd2 HVD; obtain ⟨lv, hlv⟩ : ∃ lv, lvs.getD i [] = lv := ⟨_, rfl⟩; rw [hlv] at HT HTL; have HLV := hZ hlv; clear hlv; go_upto_region 10 with fail; refine Xv ?_; refine Xlj ?_; refine X22 ?_; go_upto_region 11 with fail; refine X14 ?_; refine xaa rfl _ (xaz sl50 (.tmp 72) _ rfl ad sp.vals.n sp.vals.c i .i64 HSV.out rfl hlt) ?_; refine Xlk ?_; refine X1j ?_; by_cases hbig : 1024 < sv.n
          · have k2 : decide ((1024 : Int) < (sv.n : Int)) = true := by simp; omega
            go_upto_region 12 with fail; refine Xll ?_; refine X39 ?_; intro HL; refine Xlm ?_; refine X5 ?_; refine xac rfl rfl HL (fun W hW => xa4 (b := true) _ _ rfl _ _ rfl rfl k2) ?_; refine Xew ?_; refine X7i ?_; refine X7j ?_; refine X7g ?_; refine X6t ?_; go_upto_region 13 with fail; refine Xit ?_; refine Xes ?_; clear HL; intro w HL; go_wp2_with fail; refine Xf ?_; refine Xl9 ?_; refine ⟨D32.z, .pointer none, 11, rfl, HL.below, .inr ⟨rfl, ?_⟩⟩; rw [← HQ3.out]; rw [if_neg]; intro hc; simp only [Bool.and_eq_true, decide_eq_true_eq] at hc; obtain ⟨h1, h2⟩ := (xe8 _ _).1 hc.2 i hil; rw [HLV.out] at h1 h2; have h3 := HTL.out; omega
          have k2 : decide ((1024 : Int) < (sv.n : Int)) = false := by simp; omega
          by_cases heq : (tagV lv).l = vd.l
          · have k13 : (!((tagV lv).l == vd.l)) = false := by rw [heq]; simp
            go_upto_region 12 with fail; refine Xll ?_; refine X39 ?_; intro HL; refine Xlm ?_; refine X5 ?_; refine Xln ?_; refine X38 ?_; refine X3a ?_; refine Xjw ?_; refine X5 ?_; refine Xlo ?_; refine X3d ?_; refine Xlp ?_; refine X5 ?_; refine Xlq ?_; refine Xk ?_; intro K hK; refine Xlr ?_; refine X6s ?_; clear hK K; intro w HL; refine xac rfl rfl HL (fun W hW => xdn ab25 _ _ rfl (tagV lv) vd rfl rfl false k13) ?_; refine X3g ?_; go_upto_region 14 with fail; refine Xaf ?_; go_wp2_with fail; go_roundw
            case rel =>
              refine ⟨i + 1, by omega, rfl, fun j hj => ?_, HL⟩; by_cases hji : j = i
              · subst hji
                rw [HLV.out, HVD.out]; exact ⟨by have := HTL.out; omega, heq⟩
              · exact HZ.out j (by omega)
            case measure => simp [intOf] <;> omega
          · have k13 : (!((tagV lv).l == vd.l)) = true := by simp [heq]
            go_upto_region 12 with fail; refine Xll ?_; refine X39 ?_; intro HL; refine Xlm ?_; refine X5 ?_; refine Xln ?_; refine X38 ?_; refine X3a ?_; refine Xjw ?_; refine X5 ?_; refine Xlo ?_; refine X3d ?_; refine Xlp ?_; refine X5 ?_; refine Xlq ?_; refine Xk ?_; intro K hK; refine Xlr ?_; refine X6s ?_; clear hK K; intro w HL; refine xac rfl rfl HL (fun W hW => xdn ab25 _ _ rfl (tagV lv) vd rfl rfl true k13) ?_; refine X3g ?_; go_upto_region 13 with fail; refine Xit ?_; refine Xes ?_; clear HL; intro w HL; go_wp2_with fail; refine Xf ?_; refine Xl9 ?_; refine ⟨D32.z, .pointer none, 11, rfl, HL.below, .inr ⟨rfl, ?_⟩⟩; rw [← HQ3.out]; rw [if_neg]; intro hc; simp only [Bool.and_eq_true, decide_eq_true_eq] at hc; obtain ⟨h1, h2⟩ := (xe8 _ _).1 hc.2 i hil; rw [HLV.out] at h1 h2; rw [HVD.out] at h2; exact heq h2
        · have k0 : decide ((i : Int) < (sp.vals.n : Int)) = false := by simp; omega
          go_upto_region 10 with fail; refine Xv ?_; refine Xlj ?_; refine X22 ?_; have HX : Loc w0 (Old w0) (((g12, 23, h.c) :: (g8, 23, D32.z.c) :: (g7, 24, key.c) :: (g6, 52, sp.cells) :: (g5, 24, til.c) :: (g4, 24, fr.c) :: (gr, 138, s1.cells) :: (Gk ++ Gd)) ++ (Gs ++ [])) w := by simpa [SX, List.append_assoc] using HL
          go_upto_region 15 with fail; refine X16 ?_; refine Xka ?_; refine X5 ?_; refine xaa rfl _ (xcr xh8 _ rfl _ _ rfl) ?_; refine X5 ?_; refine xaa rfl _ (xag sc29 HL _ rfl _ _ rfl _ _ _ (.tail _ (.tail _ (.tail _ (.tail _ (.tail _ (.tail _ (.head _))))))) (Srd.g_sides _)) ?_; refine X57 ?_; intro K hK; refine xad cf110 rfl _ rfl ?_; refine X1z ?_; (with_reducible refine (xsn s1.sides SL _ hS1.sd (by omega) HX).mono ?_); rintro e w ⟨rfl, Gs2, hG2, HX2⟩; clear HL HX; have HL := HX2.perm (L' := (g12, 23, h.c) :: (g8, 23, D32.z.c) :: (g7, 24, key.c) :: (g6, 52, sp.cells) :: (g5, 24, til.c) :: (g4, 24, fr.c) :: SX gr s1 Gk Gd Gs2 []) (by simp [SX, List.append_assoc]); clear HX2; refine X23 ?_; clear hK K; go_upto_region 16 with fail; refine X99 ?_; refine X17 ?_; refine X55 ?_; refine Xes ?_; clear HL; intro w HL; go_wp2_with fail; refine Xf ?_; refine Xl9 ?_
          have hnew : ∀ y ∈ SX gr s1 Gk Gd Gs2 [], w0.heap.size ≤ y.1 := fun y hy => Nat.le_of_not_lt (HL.own y (.tail _ (.tail _ (.tail _ (.tail _ (.tail _ (.tail _ hy))))))).1
          have hkk : KyS _ s1.keys.A s1.keys.n s1.keys.c KL := ⟨hS1.k.rdm (fun x hx => by simp [hx]) HL, hS1.k.len.symm, hS1.k.cap.1⟩; have hss : Sds _ s1.sides SL.reverse := ⟨hG2.rdm (fun x hx => by simp [hx]) HL, by rw [List.length_reverse]; exact hG2.len.symm, hG2.cap.1⟩; have hval : xkz r.ents lvs = true := (xe8 _ _).2 fun j hj => HZ.out j (by have := HVL.out; omega)
          refine ⟨h, .pointer (some ⟨gr, 0, none⟩), 0, rfl, HL.below, .inl ⟨rfl, r, gr, s1, ?_, HH.out, rfl, hnew _ (.head _), Rd.of_blk0 (es := []) (by rw [List.append_nil]; exact HL.blk (.tail _ (.tail _ (.tail _ (.tail _ (.tail _ (.tail _ (.head _)))))))), ?_, hS1.k.fars (fun y hy => hnew y (by simp [hy])), ?_, hG2.fars (fun y hy => hnew y (by simp [hy])), hS1.fr, hS1.til, HNR.out⟩⟩
          · rw [← HQ3.out, HE0.out, hval, if_pos]
            simp [HEN.out]
          · rw [← HKR.out]; exact hkk
          · rw [← HSR.out]; exact hss
    · have k15 : ((s1.keys.n : Int) == (sp.vals.n : Int)) = !true := nB (by omega)
      go_upto_region 7 with fail; refine Xl8 ?_; refine X39 ?_; intro HL; refine Xb9 ?_; refine X6k ?_; refine X3a ?_; refine Xla ?_; refine X5 ?_; refine Xlb ?_; refine X5 ?_; refine Xlc ?_; refine X5 ?_; refine Xld ?_; refine X6k ?_; refine Xjv ?_; refine X5 ?_; refine Xle ?_; refine X5 ?_; refine Xja ?_; refine X5 ?_; refine Xlf ?_; refine X5 ?_; refine Xlg ?_; refine Xlh ?_; refine X5 ?_; refine xac rfl rfl HL (fun W hW => xbi (b := true) _ _ rfl _ _ rfl rfl k15) ?_; refine X3g ?_; go_upto_region 8 with fail; refine Xit ?_; refine Xes ?_; clear HL; intro w HL; go_wp2_with fail; refine Xf ?_; refine Xl9 ?_; refine ⟨D32.z, .pointer none, 11, rfl, HL.below, .inr ⟨rfl, ?_⟩⟩; rw [← HQ3.out]; rw [if_neg]; intro hc; simp only [Bool.and_eq_true, decide_eq_true_eq] at hc; have h1 := hc.1.2; have h2 := HKN.out; have h3 := HVL.out; omega
end
theorem add0 (g k : Nat) : (⟨g, 0, none⟩ : Addr).add k = ⟨g, k, none⟩ := by unfold Addr.add; split <;> simp_all
theorem SpE.part {N : Nat} {w1 w : World} {fr til : D32} {r : SpD} {gr : Nat} {s : Srd} {D : Nat → Prop} {L : List (Nat × Nat × List Value)} (h : SpE N w1 fr til r gr s) (H : Loc w1 D L w) (hD : ∀ k, N ≤ k → k < w1.heap.size → D k) (k n : Nat) (cs : List Value) (e : (s.cells.drop k).take n = cs) : Rd w (some ⟨gr, k, none⟩) cs := by
  have h1 := h.rd.cut k n; rw [e] at h1; have h2 : Rd w1 (some ((⟨gr, 0, none⟩ : Addr).add k)) cs := h1; rw [add0] at h2; exact Rd.keep0 h2 H fun ad e2 h3 => by cases e2; exact hD _ h.n h3
def SgO (N : Nat) (w0 : World) (q : Option SpD) (hi : Bool) (e : Ending) (w' : World) : Prop := ∃ (x : Prv) (er : Int), e = .returned (.tuple #[.agg x.cells.toArray, .int .i64 er]) ∧ Below N w0 w' ∧
  ((er = 0 ∧ hi = true ∧ ∃ r, q = some r ∧ Sds w' x.sides r.sides.reverse ∧ (∀ ad, x.sides.A = some ad → N ≤ ad.block) ∧ x.nod = finD ⟨0, D32.z, D32.z, D32.z, D32.z⟩ r.fin) ∨ ((er == 0) = false ∧ (q = none ∨ hi = false)))
section
variable {w w' : World}
theorem xnr (fr til key : D32) (sp : Spv) (bs : List Brv) (lvs : List (List UInt8)) (w : World) (hB : BrS w sp.parts bs) (hV : TxR 0 w sp.vals lvs) : Calls Tryz.prog 15 #[fr.a, til.a, .agg sp.cells.toArray, key.a] w (SgO w.heap.size w (rdS fr til key bs lvs) (inB fr.l til.l key.l)) := by
  have HBS := hZ hB; have HTX := hZ hV; clear hB hV; have HL := Loc.start w; obtain ⟨w0, rfl⟩ := eW w; obtain ⟨q, hq⟩ : ∃ q, rdS fr til key bs lvs = q := ⟨_, rfl⟩; have CR := fun u h1 h2 => hZ (xk0 fr til key sp bs lvs u h1 h2)
  simp only [hq] at CR; rw [hq]; clear hq; obtain ⟨hi, hhi⟩ : ∃ r, inB fr.l til.l key.l = r := ⟨_, rfl⟩; rw [hhi]; have HHI := hZ hhi; clear hhi; go_enter Tryz.func15, Tryz.ntmps15; go_upto_region 0 with fail; refine Xcr ?_; clear HL; intro g4 g5 w HL; refine X5 ?_; refine Xdy ?_; clear HL; intro g6 g7 w HL; refine X5 ?_; refine xah zr34 rfl rfl HL ?_; clear HL; intro g8 w HL; refine X1c ?_; go_upto_region 1 with fail; refine Xv ?_; refine Xen ?_; refine X5 ?_; refine X9c ?_; refine X5 ?_; refine xaa rfl _ (xan ag52 HL _ rfl _ rfl _ _ (.tail _ (.tail _ (.head _))) (Spv.len _)) ?_; refine X5 ?_; refine X79 ?_; refine X57 ?_; intro K hK; refine xad cf62 rfl _ rfl ?_; refine Xls ?_; rintro e w ⟨h, rp, er, rfl, hb, hx⟩; refine Xbn ?_; intro H1 hfr; have hsz := HL.fr.size; replace HL := HL.after hb; clear hb; obtain ⟨w1, rfl⟩ := eW w; refine Xap ?_; intro HBK
  generalize Rest w1 _ = D1 at HL HBK hfr; clear H1; refine X7b ?_; clear hK K; refine xah zr23 rfl rfl HL ?_; clear HL; intro g10 w HL; refine Xiy ?_; clear HL; intro w HL; rcases hx with ⟨rfl, r, gr, s, hq, hh, rfl, hE⟩ | ⟨her, hq⟩
  · have HQ := hZ hq
    have HE := hZ hE
    have CH : ∀ u : World, Hid (Calls Tryz.prog 63 #[.agg s.str.cells.toArray, key.a] u fun e w' => e = .returned (.bool hi) ∧ Below u.heap.size u w') := fun u => hZ (by
      have h1 := xsp s.str key u; have e : inB s.str.fr.l s.str.til.l key.l = hi := by show inB s.fr.l s.til.l key.l = hi; rw [hE.fr, hE.til]; exact HHI.out
      rw [e] at h1
      exact h1)
    clear hq hh hE; go_upto_region 2 with fail; refine X94 ?_; refine X1c ?_
    cases hi with
    | true =>
      go_upto_region 4 with fail; refine rB (Loc.P HL) [] [5] [0, 1, 2, 3, 4, 5, 6, 7] 0 ?_; refine Xjs ?_; intro HL; refine Xlt ?_; refine Xkp ?_; refine Xk ?_; intro K hK; refine xad cf63 rfl _ rfl ?_; refine Xju ?_; refine X6s ?_; clear hK K; intro w HL; refine Xb9 ?_; refine X7k ?_; go_upto_region 6 with fail; refine X16 ?_; refine Xka ?_; refine X5 ?_; refine xaa rfl _ (xay ag34 _ rfl ⟨gr, 131, none⟩ s.way.cells rfl (HE.out.part HL hfr 131 130 _ (Srd.g_way _)) (by omega) (Prv.len _)) ?_; refine X5 ?_; refine Xau ?_; clear HL; intro w HL; go_wp2_with fail; refine Xf ?_; refine Xlu ?_; exact ⟨s.way, 0, rfl, HBK _ _ HL, .inl ⟨rfl, rfl, r, HQ.out, HE.out.sd.keep HL (fun ad e h2 => hfr _ (HE.out.sf ad e) h2), fun ad e => Nat.le_trans hsz (HE.out.sf ad e), HE.out.nod⟩⟩
    | false =>
      go_upto_region 4 with fail; refine rB (Loc.P HL) [] [5] [0, 1, 2, 3, 4, 5, 6, 7] 0 ?_; refine Xjs ?_; intro HL; refine Xlt ?_; refine Xkp ?_; refine Xk ?_; intro K hK; refine xad cf63 rfl _ rfl ?_; refine Xju ?_; refine X6s ?_; clear hK K; intro w HL; refine Xbl ?_; refine X7k ?_; go_upto_region 5 with fail; refine Xas ?_; refine X5 ?_; refine Xau ?_; clear HL; intro w HL; go_wp2_with fail; refine Xf ?_; refine Xlu ?_; exact ⟨Prv.z, 2, rfl, HBK _ _ HL, .inr ⟨rfl, .inr rfl⟩⟩
  · have HER := hZ her
    have HQ := hZ hq; clear her hq; go_upto_region 2 with fail; refine Xlv ?_; refine X1c ?_; go_upto_region 3 with fail; refine Xas ?_; refine X17 ?_; refine Xau ?_; clear HL; intro w HL; go_wp2_with fail; refine Xf ?_; refine Xlu ?_; exact ⟨Prv.z, er, rfl, HBK _ _ HL, .inr ⟨HER.out, .inl HQ.out⟩⟩
end
theorem xp3 {α : Type} {l : List α} {k : Nat} {v : α} (h : l[k]? = some v) : (l.drop k).take 1 = [v] := by
  obtain ⟨h1, h2⟩ := List.getElem?_eq_some_iff.1 h; rw [List.drop_eq_getElem_cons h1, h2]; rfl
theorem xe9 {fr til key : D32} {bs : List Brv} {ls : List (List UInt8)} {r : SpD} (h : rdS fr til key bs ls = some r) : bs.length ≤ 65536 ∧ ls.length ≤ 256 ∧ plS fr til key 256 bs D32.z 0 = some r ∧ r.rest = [] ∧ r.ents.length = ls.length ∧ xkz r.ents ls = true ∧ ¬ cmpZ (nOf til.l) (nOf fr.l) < 0 := by
  unfold rdS at h
  split at h
  · cases h
  rename_i h1
  split at h
  · cases h
  rename_i h2
  split at h
  · cases h
  · rename_i x hx
    split at h
    · rename_i h3
      injection h with h; subst h; simp only [Bool.and_eq_true, decide_eq_true_eq] at h3; exact ⟨by omega, by omega, hx, List.isEmpty_iff.1 h3.1.1, h3.1.2, h3.2, h2⟩
    · cases h
theorem TxR.tail {w : World} {sv : Sv} {l : List UInt8} {ls : List (List UInt8)} (h : TxR 0 w sv (l :: ls)) : TxR 0 w ⟨cutA sv.A sv.c 1 1, sv.n - 1, sv.c - 1⟩ ls := by
  obtain ⟨vs, h1, h2⟩ := h.ex; have hl := h.len; have hc := h.cap; have h3 := h2.len; simp only [qr] at hl h3
  cases vs with
  | nil => simp at h3
  | cons v vs =>
    simp only [qr] at h3; refine ⟨⟨vs, ?_, ⟨by omega, fun i v' l' hv hl' => h2.tx (i + 1) v' l' hv hl'⟩⟩, fun _ _ => Nat.zero_le _, by show ls.length = sv.n - 1; omega, by show sv.n - 1 ≤ sv.c - 1; omega⟩; have h4 := h1.cutA (c := sv.c) (lo := 1) (z := 1) (by rw [List.length_map, List.length_cons]; omega) vs.length
    have e : (((v :: vs).map Sv.v).drop (1 * 1)).take vs.length = vs.map Sv.v := by
      rw [List.map_cons, Nat.mul_one, List.drop_succ_cons, List.drop_zero]; exact List.take_of_length_le (by rw [List.length_map]; exact Nat.le_refl _)
    rw [e] at h4; exact h4
structure PaR (N : Nat) (w : World) (sv : Sv) (ks : List D32) (ls : List (List UInt8)) (ps : List Par) : Prop where
  rd : Rd w sv.A (ps.flatMap Par.cells)
  len : ps.length = sv.n
  cap : sv.n ≤ sv.c
  far : ∀ ad, sv.A = some ad → N ≤ ad.block
  key : ps.map Par.key = ks
  val : AllTx N w (ps.map Par.val) ls
def RaO (N : Nat) (w0 : World) (q : Option SpD) (root : D32) (lvs : List (List UInt8)) (e : Ending) (w' : World) : Prop := ∃ (sv : Sv) (er : Int), e = .returned (.tuple #[sv.v, .int .i64 er]) ∧ Below N w0 w' ∧
  ((er = 0 ∧ ∃ r ps, q = some r ∧ r.dig.l = root.l ∧ PaR N w' sv (r.ents.map Prod.fst) lvs ps) ∨ (er == 0) = false)
section
variable {w w' : World}
theorem xrm (root fr til : D32) (sp : Spv) (bs : List Brv) (lvs : List (List UInt8)) (w : World) (hB : BrS w sp.parts bs) (hV : TxR 0 w sp.vals lvs) : Calls Tryz.prog 13 #[root.a, fr.a, til.a, .agg sp.cells.toArray] w (RaO w.heap.size w (rdS fr til fr bs lvs) root lvs) := by
  have HBS := hZ hB; have HTX := hZ hV; clear hB hV; have HL := Loc.start w; obtain ⟨w0, rfl⟩ := eW w; obtain ⟨q, hq⟩ : ∃ q, rdS fr til fr bs lvs = q := ⟨_, rfl⟩; have CR := fun u h1 h2 => hZ (xk0 fr til fr sp bs lvs u h1 h2)
  simp only [hq] at CR; rw [hq]; have HQ0 := hZ hq; clear hq; go_enter Tryz.func13, Tryz.ntmps13; go_upto_region 0 with fail; refine Xcr ?_; clear HL; intro g4 g5 w HL; refine X5 ?_; refine Xdy ?_; clear HL; intro g6 g7 w HL; refine X1j ?_; go_upto_region 1 with fail; refine Xv ?_; refine Xbz ?_; refine X5 ?_; refine X79 ?_; refine X5 ?_; refine Xlw ?_; refine X5 ?_; refine Xbz ?_; refine X57 ?_; intro K hK; refine xad cf62 rfl _ rfl ?_; refine Xls ?_; rintro e w ⟨h, rp, er, rfl, hb, hx⟩; refine Xbn ?_; intro H1 hfr; have hsz := HL.fr.size; replace HL := HL.after hb; clear hb; obtain ⟨w1, rfl⟩ := eW w; refine Xaq ?_; intro HBK HOD; generalize Rest w1 _ = D1 at HL HBK hfr HOD; clear H1; refine X7b ?_; clear hK K; refine xah zr23 rfl rfl HL ?_; clear HL; intro g10 w HL; refine Xiy ?_; clear HL; intro w HL; rcases hx with ⟨rfl, r, gr, s, hq, hh, rfl, hE⟩ | ⟨her, hq⟩
  · have hrs := xe9 (HQ0.out.trans hq)
    obtain ⟨_, hl256, _, _, hel, hval, _⟩ := hrs; have HVB := hZ ((xe8 _ _).1 hval); have HEL := hZ hel; have HQ := hZ hq; have HE := hZ hE; have HH := hZ hh; have HKN : Hid (s.keys.n = r.ents.length) := hZ (by have h1 := hE.k.len; rw [List.length_map] at h1; exact h1.symm); have HLN : Hid (s.keys.n = lvs.length) := hZ (by rw [HKN.out]; exact hel); have hn256 : s.keys.n ≤ 256 := by have := HLN.out; omega
    clear hq hh hE hel hval hl256; go_upto_region 2 with fail; refine X94 ?_; refine X1c ?_; by_cases heq : h.l = root.l
    · have k4 : (!(h.l == root.l)) = false := by rw [heq]; simp
      have HEQ := hZ heq; clear heq; go_upto_region 4 with fail; refine Xc8 ?_; refine xaa rfl _ (xdn ab25 _ _ rfl h root rfl rfl false k4) ?_; refine X1c ?_; go_upto_region 6 with fail; refine X1k ?_; go_upto_region 7 with fail; refine Xv ?_; refine Xli ?_; refine X5 ?_; refine xaa rfl _ (xag sc50 HL _ rfl _ _ rfl _ _ _ (.tail _ (.head _)) (Spv.g_vals _)) ?_; refine X1c ?_; go_upto_region 8 with fail; refine X16 ?_; refine xaa rfl _ (xaf xr0 _ rfl _ rfl) ?_; refine X5 ?_; refine xaa rfl _ (xcx sc26 _ rfl ⟨gr, 97, none⟩ s.keys.v rfl (HE.out.part HL hfr 97 1 _ (xp3 (Srd.g_keys _)))) ?_; refine X5 ?_; refine Xhj ?_; refine X1h ?_; go_wp2_with fail
      go_loopw [13, 14, 41] (fun u t z wr => ∃ (i : Nat) (svp sv4 : Sv) (ls : List (List UInt8)) (ps : List Par) (G GV : List (Nat × Nat × List Value)), i ≤ s.keys.n ∧ u = svp.v ∧ t = sv4.v ∧ z = .int .i64 (i : Int) ∧ TxR 0 w0 sv4 ls ∧ lvs.drop i = ls ∧ ps.length = i ∧ Gw 61 33 G svp i (ps.flatMap Par.cells) ∧ ps.map Par.key = (r.ents.map Prod.fst).take i ∧ Gws GV (ps.map Par.val) (lvs.take i) ∧
        Loc w1 D1 ((g10, 23, h.c) :: (g7, 52, sp.cells) :: (g6, 24, til.c) :: (g5, 24, fr.c) :: (g4, 23, root.c) :: (G ++ (GV ++ []))) wr) (fun _ _ z _ => (s.keys.n - intOf z).toNat)
      case atStart => exact ⟨0, Sv.nil, sp.vals, lvs, [], [], [], Nat.zero_le _, rfl, rfl, rfl, HTX.out, rfl, rfl, Gw.nil 61 33, rfl, .nil, HL⟩
      case round =>
        clear HL; obtain ⟨i, svp, sv4, ls, ps, G, GV, hi, rfl, rfl, rfl, hT4, hls, hpl, hG, hpk, hGV, HL⟩ := hrel; obtain ⟨w, rfl⟩ := eW wr; have HLS := hZ hls; have HPL := hZ hpl; have HPK := hZ hpk; clear hls hpl hpk; by_cases hlt : i < s.keys.n
        · have k0 : decide ((i : Int) < (s.keys.n : Int)) = true := by simp; omega
          refine Xaa ?_; intro HI; have hil : i < lvs.length := by have := HLN.out; omega
          have hie : i < (r.ents.map Prod.fst).length := by rw [List.length_map]; have := HKN.out; omega
          cases ls with
          | nil =>
            exfalso; have h1 : (lvs.drop i).length = 0 := by rw [HLS.out]; rfl
            rw [List.length_drop] at h1; omega
          | cons l ls =>
            have hl1 : lvs.getD i [] = l ∧ lvs.drop (i + 1) = ls := by
              have h1 := HLS.out; rw [List.drop_eq_getElem_cons hil] at h1; injection h1 with h1 h2; exact ⟨by rw [List.getD_eq_getElem?_getD, List.getElem?_eq_getElem hil]; exact h1, h2⟩
            have HL1 := hZ hl1; have hlb := ((HVB.out i hil)).1; rw [hl1.1] at hlb; clear hl1; obtain ⟨ad4, sv, hA4, _, hE4, hT, _⟩ := hT4.at_ 0 (by simp); have hE4 : Rd w0 (some (ad4.add (0 * 1))) [sv.v] := hE4; have hT : Tx w0 sv.A sv.n sv.c l := hT; have HE4 := hZ hE4; have HT := hZ hT; have htl := hT.len; have HTL := hZ hT4.tail; have hn4 : 1 ≤ sv4.n := by have := hT4.len; simp only [qr] at this; omega
            have HSV4 : Hid (sv4.v = .slice (some ad4) sv4.n sv4.c) := hZ (by unfold Sv.v; rw [hA4]); obtain ⟨ad, hA, hKD⟩ := (HE.out.k.keep HL (fun ad e h2 => hfr _ (HE.out.kf ad e) h2)).at_ i hie; have HSV : Hid (s.keys.v = .slice (some ad) s.keys.n s.keys.c) := hZ (by unfold Sv.v; rw [hA]); have hkd : (r.ents.map Prod.fst).take (i + 1) = (r.ents.map Prod.fst).take i ++ [(r.ents.map Prod.fst)[i]] := by rw [List.take_succ_eq_append_getElem hie]
            have HKD := hZ hKD; have HKT := hZ hkd; clear hE4 hT hT4 hA4 hA hKD hkd; generalize (r.ents.map Prod.fst)[i] = kd at HKD HKT; go_upto_region 9 with fail; refine Xv ?_; refine Xlj ?_; refine X22 ?_; go_upto_region 10 with fail; refine Xv ?_; refine xaa rfl _ (xaz sl26 (.tmp 39) _ rfl ad s.keys.n s.keys.c i .i64 HSV.out rfl hlt) ?_; refine X5 ?_; refine xaa rfl _ (xay ag24 _ rfl _ kd.c rfl HKD.out (by omega) (D32.cl _)) ?_; refine X5 ?_; refine xah zr24 rfl rfl HL ?_; clear HL; intro g16 w HL; refine X6h ?_; refine X3j ?_; clear HL; intro w HL; have HX := (HL.perm (L' := ((g16, 24, kd.c) :: (g10, 23, h.c) :: (g7, 52, sp.cells) :: (g6, 24, til.c) :: (g5, 24, fr.c) :: (g4, 23, root.c) :: (G ++ GV)) ++ ([] ++ [])) (by simp)).drew; have HL2 := HL.drop [(g16, 24, kd.c)] (by simp); clear HL; have HL := HL2; clear HL2; go_upto_region 11 with fail
            refine rB (Loc.P HL) [] [5, 7, 8] [0, 1, 2, 3, 4, 5, 6, 7, 8, 9] 0 ?_; refine X39 ?_; intro HL; refine X6l ?_; refine X3d ?_; refine xac rfl rfl HL (fun W hW => xaz sl50 (.tmp 47) _ rfl ad4 sv4.n sv4.c 0 .i64 HSV4.out rfl hn4) ?_; refine X5 ?_; refine xac rfl rfl HL (fun W hW => xcx sc25 _ rfl _ _ rfl (HE4.out.below (HBK _ _ hW))) ?_; refine Xk ?_; intro K hK; refine xes sl25 el5 _ _ rfl ((g16, 24, kd.c) :: (g10, 23, h.c) :: (g7, 52, sp.cells) :: (g6, 24, til.c) :: (g5, 24, fr.c) :: (g4, 23, root.c) :: (G ++ GV)) 0 Sv.nil [] (Gw.nil 5 1) HX rfl sv.A sv.n sv.c (bvs l) rfl (HT.out.below (HBK _ _ HX)).rd (by rw [xae]; omega) (xbk _) (by omega) (by omega) ?_; clear HX HL; intro sv5 G5 w hG5 HX; rw [List.nil_append, Nat.zero_add, ← htl] at hG5; have HL := HX.drop [(g16, 24, kd.c)] (by simp); refine X3w ?_; clear hK K
            refine xac rfl rfl HL (fun W hW => xbf bs61 _ rfl _ (by exact bd61_20 kd sv5)) ?_; refine Xk ?_; intro K hK; refine xdu sl55 el61 (by decide) _ rfl HX (⟨kd, sv5⟩ : Par).cells rfl (Par.len _) ?_; clear HX HL; intro g52 w HX; have HL := HX.drop [(g16, 24, kd.c)] (by simp); refine X3x ?_; clear hK K; intro K hK; have HX2 := HX.perm (L' := ((g52, 61, (⟨kd, sv5⟩ : Par).cells) :: (g16, 24, kd.c) :: (g10, 23, h.c) :: (g7, 52, sp.cells) :: (g6, 24, til.c) :: (g5, 24, fr.c) :: (g4, 23, root.c) :: []) ++ (G ++ (GV ++ (G5 ++ [])))) (by simp)
            refine xam sl55 el61 _ _ rfl ((g52, 61, (⟨kd, sv5⟩ : Par).cells) :: (g16, 24, kd.c) :: (g10, 23, h.c) :: (g7, 52, sp.cells) :: (g6, 24, til.c) :: (g5, 24, fr.c) :: (g4, 23, root.c) :: []) i svp _ hG HX2 rfl ⟨g52, 0, none⟩ 1 1 (⟨kd, sv5⟩ : Par).cells rfl (Rd.of_blk0 (es := []) (by rw [List.append_nil]; exact HX2.blk (.head _))) (Par.len _) (Par.one _) (by omega) (by omega) (by omega) ?_; clear HX HX2 HL; intro svp' G' w hG' HX; have HL := HX.drop [(g16, 24, kd.c)] (by simp); refine Xa0 ?_; clear hK K; clear HL; have HL := HX.drop ((g10, 23, h.c) :: (g7, 52, sp.cells) :: (g6, 24, til.c) :: (g5, 24, fr.c) :: (g4, 23, root.c) :: (G' ++ (GV ++ (G5 ++ [])))) (by exact (sB _ _).trans (sB _ _)); clear HX; go_upto_region 12 with fail; refine X14 ?_; refine xaa rfl _ (xb3 sl50 (.tmp 54) _ rfl sv4.A sv4.n sv4.c 1 .i64 rfl rfl hn4) ?_; refine X1c ?_
            go_upto_region 13 with fail; refine Xaf ?_; go_wp2_with fail; go_roundw
            case rel =>
              refine ⟨i + 1, svp', ⟨cutA sv4.A sv4.c 1 1, sv4.n - 1, sv4.c - 1⟩, ls, ps ++ [⟨kd, sv5⟩], G', GV ++ G5, by omega, rfl, rfl, rfl, HTL.out, HL1.out.2, by rw [List.length_append, HPL.out]; rfl, by rw [List.flatMap_append]; simpa using hG', ?_, ?_, by simpa [List.append_assoc] using HL⟩
              · rw [HKT.out, List.map_append, HPK.out]; rfl
              · have e2 : lvs.take (i + 1) = lvs.take i ++ [l] := by
                  rw [List.take_succ_eq_append_getElem hil]; have h1 := HL1.out.1; rw [List.getD_eq_getElem?_getD, List.getElem?_eq_getElem hil] at h1; exact congrArg (fun x => lvs.take i ++ [x]) h1
                rw [e2, List.map_append]; exact .snoc hGV hG5
            case measure => simp [intOf] <;> omega
        · have k0 : decide ((i : Int) < (s.keys.n : Int)) = false := by simp; omega
          go_upto_region 9 with fail; refine Xv ?_; refine Xlj ?_; refine X22 ?_; go_upto_region 14 with fail; refine X3s ?_; go_wp2_with fail; have hin : i = s.keys.n := by omega
          have hnew : ∀ y ∈ G ++ (GV ++ []), w0.heap.size ≤ y.1 := fun y hy => Nat.le_of_not_lt fun hlt2 => (HL.own y (.tail _ (.tail _ (.tail _ (.tail _ (.tail _ hy)))))).1 (HOD _ hlt2)
          have hfin : PaR w0.heap.size w svp (r.ents.map Prod.fst) lvs ps := by
            refine ⟨hG.rdm (fun x hx => by simp [hx]) HL, ?_, hG.cap.1, hG.fars (fun y hy => hnew y (by simp [hy])), ?_, ?_⟩
            · rw [HPL.out]; exact hG.len.symm
            · rw [HPK.out]; exact List.take_of_length_le (by rw [List.length_map]; have := HKN.out; omega)
            · have h1 := hGV.all (N := w0.heap.size) (L := (g10, 23, h.c) :: (g7, 52, sp.cells) :: (g6, 24, til.c) :: (g5, 24, fr.c) :: (g4, 23, root.c) :: (G ++ (GV ++ []))) (fun x hx => by simp [hx]) (fun y hy => hnew y (by simp [hy])) HL
              rwa [List.take_of_length_le (by have := HLN.out; omega)] at h1
          have hdig : r.dig.l = root.l := by rw [← HH.out]; exact HEQ.out
          go_ret2; exact ⟨svp, 0, rfl, HBK _ _ HL, .inl ⟨rfl, r, ps, HQ.out, hdig, hfin⟩⟩
    · have k4 : (!(h.l == root.l)) = true := by simp [heq]
      go_upto_region 4 with fail; refine Xc8 ?_; refine xaa rfl _ (xdn ab25 _ _ rfl h root rfl rfl true k4) ?_; refine X1c ?_; go_upto_region 5 with fail; refine X32 ?_; go_wp2_with fail; go_ret2; exact ⟨Sv.nil, 11, rfl, HBK _ _ HL, .inr rfl⟩
  · have HER := hZ her
    clear her hq; go_upto_region 2 with fail; refine Xlv ?_; refine X1c ?_; go_upto_region 3 with fail; refine X3s ?_; go_wp2_with fail; go_ret2; exact ⟨Sv.nil, er, rfl, HBK _ _ HL, .inr HER.out⟩
end
def SeO (n : Nat) (w0 : World) (e : Ending) (w' : World) : Prop := ∃ (s : Sv) (l : List UInt8) (er : Int), e = .returned (.tuple #[s.v, .int .i64 er]) ∧ Below n w0 w' ∧ Tx w' s.A s.n s.c l ∧ (∀ ad, s.A = some ad → n ≤ ad.block) ∧ l.length ≤ 6000000
section
variable {w w' : World}
theorem xhw (sp : Spv) (bs : List Brv) (lvs : List (List UInt8)) (w : World) (hB : BrS w sp.parts bs) (hV : TxR 0 w sp.vals lvs) : Calls Tryz.prog 61 #[.agg sp.cells.toArray] w (SeO w.heap.size w) := by
  have HBS := hZ hB; have HTX := hZ hV; have HVL := hZ hV.len; clear hB hV; have HL := Loc.start w; obtain ⟨w0, rfl⟩ := eW w; go_enter Tryz.func61, Tryz.ntmps61; go_upto_region 0 with fail; refine X7s ?_; clear HL; intro g1 w HL; refine X1j ?_; by_cases hv : 256 < sp.vals.n
  · have k3 : decide ((256 : Int) < (sp.vals.n : Int)) = true := by simp; omega
    go_upto_region 1 with fail; refine Xv ?_; refine Xli ?_; refine X5 ?_; refine Xlx ?_; refine X5 ?_; refine Xcz ?_; refine X5 ?_; refine xaa rfl _ (xa4 (b := true) _ _ rfl _ _ rfl rfl k3) ?_; refine X22 ?_; go_upto_region 2 with fail; refine X32 ?_; go_wp2_with fail; go_ret2; exact ⟨Sv.nil, [], 4, rfl, HL.below, xil _, fun ad e => (by cases e), Nat.zero_le _⟩
  have k3 : decide ((256 : Int) < (sp.vals.n : Int)) = false := by simp; omega
  go_upto_region 1 with fail; refine Xv ?_; refine Xli ?_; refine X5 ?_; refine Xlx ?_; refine X5 ?_; refine Xcz ?_; refine X5 ?_; refine Xl6 ?_; refine X22 ?_; go_upto_region 3 with fail; refine Xv ?_; refine Xli ?_; refine X5 ?_; refine Xlx ?_; refine X5 ?_; refine Xcz ?_; refine X57 ?_; intro K hK; refine xad cf101 rfl _ rfl ?_; refine X1z ?_; (with_reducible refine (xj4 sp.vals.n (by omega) _).mono ?_); rintro e w ⟨v5, rfl, ho, hb⟩; obtain ⟨G1, s1, rfl, hG1, HL1⟩ := HL.took hb ho; replace HL := HL1; clear HL1 ho hb; simp only [qm, qn] at HL; refine X6o ?_; clear hK K; go_upto_region 4 with fail; refine Xv ?_; refine Xli ?_; refine X5 ?_; refine Xlx ?_; refine X5 ?_; refine Xcz ?_; refine X1h ?_; have hbl : ∀ u : Nat, (be 2 u).length = 2 := fun u => xb1 2 u
  go_wp2_with fail
  go_loopw [4, 26] (fun u z wr => ∃ (i : Nat) (l : List UInt8) (G : List (Nat × Nat × List Value)) (sv : Sv), i ≤ sp.vals.n ∧ u = Sv.v sv ∧ z = .int .i64 (i : Int) ∧ Gw 5 1 G sv l.length (bvs l) ∧ l.length ≤ 2 + 1026 * i ∧ Loc w0 (Old w0) ((g1, 52, sp.cells) :: (G ++ [])) wr) (fun _ z _ => (sp.vals.n - intOf z).toNat)
  case atStart => exact ⟨0, be 2 sp.vals.n, G1, s1, Nat.zero_le _, rfl, rfl, hG1, by rw [hbl]; omega, HL⟩
  case round =>
    clear HL hG1; obtain ⟨i, l, G, sv, hi, rfl, rfl, hG, hll, HL⟩ := hrel; obtain ⟨w, rfl⟩ := eW wr; by_cases hlt : i < sp.vals.n
    · have k5 : decide ((i : Int) < (sp.vals.n : Int)) = true := by simp; omega
      refine Xaa ?_; intro HI; have hil : i < lvs.length := by have := HVL.out; omega
      obtain ⟨ad, tx, hA, _, hE, hT, _⟩ := HTX.out.at_ i hil; have HE := hZ hE; generalize lvs.getD i [] = lt at hT; have HT := hZ hT; have htl := hT.len; have HSV : Hid (sp.vals.v = .slice (some ad) sp.vals.n sp.vals.c) := hZ (by unfold Sv.v; rw [hA]); clear hA hE hT; go_upto_region 5 with fail; refine Xv ?_; refine Xgh ?_; go_upto_region 6 with fail; refine Xv ?_; refine xaa rfl _ (xaz sl50 (.tmp 24) _ rfl ad sp.vals.n sp.vals.c i .i64 HSV.out rfl hlt) ?_; refine Xlk ?_; refine X1c ?_; by_cases hbig : 1024 < tx.n
      · have k7 : decide ((1024 : Int) < (tx.n : Int)) = true := by simp; omega
        go_upto_region 7 with fail; refine X9k ?_; refine xaa rfl _ (xa4 (b := true) _ _ rfl _ _ rfl rfl k7) ?_; refine X22 ?_; go_upto_region 8 with fail; refine X32 ?_; go_wp2_with fail; go_ret2; exact ⟨Sv.nil, [], 4, rfl, HL.below, xil _, fun ad e => (by cases e), Nat.zero_le _⟩
      have k7 : decide ((1024 : Int) < (tx.n : Int)) = false := by simp; omega
      go_upto_region 7 with fail; refine X9k ?_; refine xaa rfl _ (xa4 (b := false) _ _ rfl _ _ rfl rfl k7) ?_; refine X22 ?_; go_upto_region 9 with fail; refine X5v ?_; refine X57 ?_; intro K hK; refine xad cf101 rfl _ rfl ?_; refine X1z ?_; (with_reducible refine (xj4 tx.n (by omega) _).mono ?_); rintro e w ⟨v5, rfl, ho, hb⟩; obtain ⟨G8, s8, rfl, hG8, HL1⟩ := HL.took hb ho; replace HL := HL1; clear HL1 ho hb; simp only [qm, qo, qn] at HL; refine X6o ?_; clear hK K; generalize hbe : be 2 tx.n = tb at hG8; have htb : tb.length = 2 := by rw [← hbe]; exact hbl _
      clear hbe; have hn8 : s8.n = tb.length := hG8.len; have H8 := hZ (hG8.rd (L0 := (g1, 52, sp.cells) :: G) (L1 := []) HL); go_upto_region 10 with fail; refine X2n ?_; intro K hK; refine xes sl25 el5 _ _ rfl [_] _ sv _ hG HL rfl s8.A s8.n s8.c (bvs tb) rfl H8.out (by rw [xae]; omega) (xbk _) (by omega) (by omega) ?_; clear HL hG; intro sv1 G' w hG HL; simp only [qm, qn] at HL; refine Xa6 ?_; clear hK K; refine Xam ?_; intro K hK; refine xes sl25 el5 _ _ rfl [_] _ sv1 _ hG HL rfl tx.A tx.n tx.c (bvs lt) rfl (HT.out.below HL.below).rd (by rw [xae]; omega) (xbk _) (by omega) (by omega) ?_; clear HL hG; intro sv2 G'' w hG HL; simp only [qm, qn] at HL; refine Xal ?_; clear hK K; go_upto_region 11 with fail; refine Xaf ?_; go_wp2_with fail; go_roundw
      case rel =>
        refine ⟨i + 1, l ++ tb ++ lt, G'', sv2, by omega, rfl, rfl, ?_, ?_, ?_⟩
        · rw [List.length_append, List.length_append, xbz, xbz, ← hn8, htl]; exact hG
        · rw [List.length_append, List.length_append]; omega
        · exact HL.drop _ (List.Sublist.cons_cons _ (List.Sublist.append (.refl _) (List.nil_sublist _)))
      case measure => simp [intOf] <;> omega
    · have k5 : decide ((i : Int) < (sp.vals.n : Int)) = false := by simp; omega
      have hlb : l.length ≤ 300000 := by omega
      go_upto_region 5 with fail; refine Xv ?_; refine Xgh ?_; go_upto_region 12 with fail; refine Xv ?_; refine Xl3 ?_; refine X5 ?_; refine xaa rfl _ (xag sc42 HL _ rfl _ _ rfl _ _ _ (.head _) (Spv.g_parts _)) ?_; refine X5 ?_; refine xaa rfl _ (xbf bs44 _ rfl _ (by exact bd44_21 sp.parts)) ?_; refine X57 ?_; intro K hK; refine xad cf112 rfl _ rfl ?_; refine X1z ?_; (with_reducible refine (xnl sp.parts bs _ (HBS.out.below HL.below)).mono ?_); rintro e w ⟨s10, l10, er, rfl, hb, ht10, hf10, hl10⟩; have hsz := HL.fr.size; refine Xbn ?_; intro H1 hfr; replace HL := HL.after hb; clear hb; obtain ⟨w1, rfl⟩ := eW w; refine Xaq ?_; intro HBK HOD; generalize Rest w1 _ = D1 at HL HBK hfr HOD; clear H1; refine X6o ?_; clear hK K; by_cases he : er = 0
      · have k13 : (er == 0) = true := by rw [he]; rfl
        clear he; have htn := ht10.len; have HT10 := hZ (ht10.keep HL hf10 hfr); go_upto_region 13 with fail; refine X14 ?_; refine xaa rfl _ (xbi (b := false) _ _ rfl _ _ rfl rfl k13) ?_; refine X22 ?_; go_upto_region 15 with fail; refine X2n ?_; intro K hK; refine xes sl25 el5 _ _ rfl [_] _ sv _ hG HL rfl s10.A s10.n s10.c (bvs l10) rfl HT10.out.rd (by rw [xae]; omega) (xbk _) (by omega) (by omega) ?_; clear HL; intro sv1 G' w hG2 HL; simp only [qm, qn] at HL; refine Xa6 ?_; clear hK K; refine X1i ?_; go_wp2_with fail; have hG3 : Gw 5 1 G' sv1 (l ++ l10).length (bvs (l ++ l10)) := by rw [List.length_append, xbz, htn]; exact hG2
        go_ret2; exact ⟨sv1, l ++ l10, 0, rfl, HBK _ _ HL, hG3.tx (L0 := [_]) (L1 := []) HL, hG3.far (L0 := [_]) (L1 := []) HL HOD, by rw [List.length_append]; omega⟩
      · have k13 : (er == 0) = false := nB he
        clear he; go_upto_region 13 with fail; refine X14 ?_; refine xaa rfl _ (xbi (b := true) _ _ rfl _ _ rfl rfl k13) ?_; refine X22 ?_; go_upto_region 14 with fail; refine X3s ?_; go_wp2_with fail; go_ret2; exact ⟨Sv.nil, [], er, rfl, HBK _ _ HL, xil _, fun ad e => (by cases e), Nat.zero_le _⟩
end
theorem RdL.turn {w1 w w2 : World} {D : Nat → Prop} {L : List (Nat × Nat × List Value)} {cs : List Value} {st : Option (List UInt8)} (h : RdL w1 D cs st) (H : Loc w1 D L w) (hb : Below w.heap.size w w2) : RdL w2 (Rest w2 L) cs st := by
  cases st with
  | none => exact h
  | some l =>
    obtain ⟨A, n, c, e, h1, h2, h3, h4, h5⟩ := h; exact ⟨A, n, c, e, (H.rd h5 h1).below hb, h2, h3, h4, fun ad e2 => ⟨Nat.lt_of_lt_of_le (H.lt (h5 ad e2)) hb.size, fun x hx e3 => (H.own x hx).1 (by rw [e3]; exact h5 ad e2)⟩⟩
theorem Loc.back2 {w1 w w2 u : World} {D : Nat → Prop} {L L' : List (Nat × Nat × List Value)} (H : Loc w1 D L w) (hb : Below w.heap.size w w2) (H2 : Loc w2 (Rest w2 L) L' u) : Loc w1 D [] u := by
  have H3 := H.next hb; refine ⟨H3.fr.trans ⟨H2.fr.os, H2.fr.tape, H2.fr.output, H2.fr.size, fun k hk hn => H2.fr.block k hk fun n => n ⟨Nat.lt_of_lt_of_le (H.lt (Classical.not_not.1 hn)) hb.size, fun x hx e => (H.own x hx).1 (by rw [e]; exact Classical.not_not.1 hn)⟩⟩, fun x hx => by simp at hx, List.Pairwise.nil, H.old⟩
theorem BrS.dD {w2 : World} {D : Nat → Prop} {ps : Sv} {bs : List Brv} {N : Nat} (h : BrS w2 ps bs) (hf : ∀ ad, ps.A = some ad → N ≤ ad.block) (hfr : ∀ k, N ≤ k → k < w2.heap.size → D k) : BrD D w2 ps bs := ⟨h, fun hne ad e => by
  obtain ⟨ad', e', hc⟩ := h.rd (by rw [xbx Brv.len]; have := List.length_pos_iff.2 hne; omega); have e2 := e; rw [e] at e'; cases e'; have := World.block_lt_of_cell? _ _ (hc 0 _ (List.getElem?_eq_getElem (by rw [xbx Brv.len]; have := List.length_pos_iff.2 hne; omega)))
  exact hfr _ (hf ad e2) (by rwa [show (ad.add 0).block = ad.block by unfold Addr.add; split <;> rfl] at this)⟩
theorem xf8 (s : Sv) (l : List UInt8) (w : World) (h : Tx w s.A s.n s.c l) (hn : s.n ≤ 140737488351232) : Calls Tryz.prog 9 #[s.v] w (MdO w.heap.size w) := xnm s.A s.n s.c l w h hn
def SdO (N : Nat) (w0 : World) (e : Ending) (w' : World) : Prop := ∃ (x : Spv) (er : Int) (bs : List Brv) (lvs : List (List UInt8)), e = .returned (.tuple #[.agg x.cells.toArray, .int .i64 er]) ∧ Below N w0 w' ∧ BrS w' x.parts bs ∧ (∀ ad, x.parts.A = some ad → N ≤ ad.block) ∧ TxR N w' x.vals lvs
theorem SdO.bad {N : Nat} {w0 w' : World} (er : Int) (hb : Below N w0 w') : SdO N w0 (.returned (.tuple #[.agg Spv.z.cells.toArray, .int .i64 er])) w' :=
  ⟨Spv.z, er, [], [], rfl, hb, ⟨Rd.nil _ _, rfl, Nat.le_refl _, fun b hb => (by cases hb)⟩, fun ad e => (by cases e), ⟨⟨[], Rd.nil _ _, rfl, fun i v l h => (by cases h)⟩, fun ad e => (by cases e), rfl, Nat.le_refl _⟩⟩
section
variable {w w' : World}
theorem xns (A : Option Addr) (n c : Nat) (l : List UInt8) (w : World) (h : Tx w A n c l) (hn : n ≤ 140737488351232) : Calls Tryz.prog 12 #[.slice A n c] w (SdO w.heap.size w) := by
  have hr := h.rd; have hl := h.len; have HT := hZ h; have HTL := hZ h.len; have hB0 : ∀ q, some l = some q → q.length ≤ 140737488351232 := fun q e => by cases e; omega
  clear h; have HL := Loc.start w; obtain ⟨w0, rfl⟩ := eW w; go_enter Tryz.func12, Tryz.ntmps12; go_upto_region 0 with fail; refine Xv ?_; refine xah zr52 rfl rfl HL ?_; clear HL; intro g2 w HL; refine X1c ?_; go_upto_region 1 with fail; refine X1y ?_; intro K hK; refine Xan ?_; refine Xao ?_; rintro e w ⟨gr, A1, c1, rfl, M⟩; obtain ⟨H1, HL1, hR⟩ := HL.reader M; clear HL M; have HL := HL1; clear HL1; obtain ⟨w1, rfl⟩ := eW w; refine Xaq ?_; intro HBK HOD; have hszA := H1.fr.size; generalize Rest w1 _ = D1 at HL hR HBK HOD; generalize hcs : [Value.bool true, Value.bool false, Value.slice A1 l.length c1] = cs0 at HL hR; clear H1 hcs; refine X2q ?_; clear hK K; go_upto_region 2 with fail; refine Xv ?_; refine xah zr52 rfl rfl HL ?_; clear HL; intro g5 w HL; refine X22 ?_; go_upto_region 3 with fail; refine X1y ?_; intro K hK; refine Xar ?_
  (with_reducible refine (u16_L (i := 1) HL rfl hR hB0).mono ?_); rintro e w ⟨rfl, cs1, hR1, HL1⟩; clear HL hR; have HL := HL1; clear HL1; simp only [qg, qh] at HL; refine X2q ?_; clear hK K; have hST1 : StS (xbt (some l) 2) := StS.take hB0 2; have hj0 := xsh (some l); generalize numL (some l) 2 = j0 at hj0; generalize xbt (some l) 2 = st1 at hR1 hST1; clear hB0 hr; go_wp2_with fail
  go_loopw [6] (fun z wr => ∃ (j : Nat) (st : Option (List UInt8)) (cs : List Value) (svv : Sv) (vs : List Sv) (ls : List (List UInt8)) (Gv GT : List (Nat × Nat × List Value)), z = .int .i64 (j : Int) ∧ vs.length + j ≤ 65536 ∧ RdL w1 D1 cs st ∧ StS st ∧ Gw 25 1 Gv svv vs.length (vs.map Sv.v) ∧ Gws GT vs ls ∧
    Loc w1 D1 ((g5, 52, (⟨Sv.nil, svv⟩ : Spv).cells) :: (gr, 195, cs) :: (g2, 52, Spv.z.cells) :: (Gv ++ (GT ++ []))) wr) (fun z _ => (intOf z).toNat)
  case atStart => exact ⟨j0, st1, cs1, Sv.nil, [], [], [], [], rfl, by simp only [qs]; omega, hR1, hST1, Gw.nil 25 1, .nil, HL⟩
  case round =>
    clear HL hR1 hST1; obtain ⟨j, st, cs, svv, vs, ls, Gv, GT, rfl, hj, hR, hST, hGv, hGT, HL⟩ := hrel; obtain ⟨w, rfl⟩ := eW wr; by_cases hz : j = 0
    · have k1 : decide ((0 : Int) < (j : Int)) = false := by simp; omega
      go_upto_region 4 with fail; refine X14 ?_; refine xaa rfl _ (xa4 (b := false) _ _ rfl _ _ rfl rfl k1) ?_; refine X59 ?_; have hSTb : ∀ q, st = some q → q.length ≤ 140737488351232 := hST
      have hLB0 : -9223372036854775808 ≤ ((xck st : Nat) : Int) ∧ ((xck st : Nat) : Int) ≤ 9223372036854775807 := by
        cases st with
        | none => simp only [xck]; omega
        | some q => have := hST q rfl; simp only [xck]; omega
      go_upto_region 7 with fail; refine X2n ?_; intro K hK; refine Xb2 ?_; (with_reducible refine (xq3 (i := 1) HL rfl hR).mono ?_); rintro e w ⟨rfl, rfl⟩; refine Xa5 ?_; clear hK K; intro K hK; refine Xly ?_; rintro e w ⟨Gt, sT, cs2, rfl, hGt, hR2, HX2⟩; clear HL hR; have HL := HX2; clear HX2; simp only [qg, qh, qm, qo, qn] at HL; have htk := StS.takeL hST ((xck st : Nat) : Int); refine Xlz ?_; intro hTX; refine Xa5 ?_; clear hK K; intro K hK; refine xad cf9 rfl _ rfl ?_; refine X1z ?_; (with_reducible refine (xf8 sT _ _ hTX (by rw [hGt.len]; exact htk)).mono ?_); rintro e w ⟨ps, bs, er, rfl, hb, hps, hpf, hpn⟩; refine Xm0 ?_; intro HBK2 HNW; have hszB := HL.fr.size; have hR3 := hR2.turn HL hb; refine Xbm ?_; intro hfr; refine Xm1 ?_; intro hnw; replace HL := HL.after hb; clear hb hR2 hTX HNW; obtain ⟨w2, rfl⟩ := eW w; generalize Rest w2 _ = D2 at HL HBK2 hR3 hfr
      refine X5c ?_; clear hK K; refine xah zr44 rfl rfl HL ?_; clear HL; intro g7 w HL; refine X5 ?_; refine Xm2 ?_; refine X2u ?_; clear HL; intro w HL; have hbrd := hps.dD hpf hfr; refine Xm3 ?_; intro hpf2
      have htxr : ∀ (L : List (Nat × Nat × List Value)) (W : World), (∀ x ∈ Gv ++ GT, x ∈ L) → Loc w2 D2 L W → TxR w0.heap.size W svv ls := fun L W hm hW =>
        ⟨⟨vs, hGv.rdm (fun x hx => hm x (List.mem_append.2 (.inl hx))) hW, hGT.all (fun x hx => hm x (List.mem_append.2 (.inr hx))) (fun x hx => hnw x (List.mem_append.2 (.inr hx))) hW⟩, hGv.fars (fun x hx => hnw x (List.mem_append.2 (.inl hx))), by rw [← hGT.len]; exact hGv.len.symm, hGv.cap.1⟩
      clear hps hpf hfr; go_upto_region 8 with fail; refine Xgd ?_; refine X5 ?_; refine Xl3 ?_; refine X5 ?_; refine xaw sc42 rfl _ _ rfl HL 1 g5 0 52 _ (⟨ps, svv⟩ : Spv).cells ps.v rfl rfl rfl rfl (by rw [Spv.len]; decide) (Spv.s_parts _ _) ?_; refine X2y ?_; clear HL; intro w HL; refine Xm4 ?_; intro CB2; generalize badB (xbt st ((xck st : Nat) : Int)) = bb at CB2
      cases bb with
      | true =>
        go_upto_region 9 with fail; refine X1y ?_; intro K hK; refine Xm5 ?_; rintro e w ⟨rfl, rfl⟩; refine X21 ?_; clear hK K; refine X2g ?_; refine X2b ?_; go_upto_region 10 with fail; refine Xm6 ?_; clear HL; intro w HL; go_wp2_with fail; refine Xm7 ?_; exact SdO.bad 10 (HBK2 _ _ HL)
      | false =>
        by_cases he : er = 0
        · have k4 : (er == 0) = true := by rw [he]; rfl
          clear he; go_upto_region 9 with fail; refine X1y ?_; intro K hK; refine Xm5 ?_; rintro e w ⟨rfl, rfl⟩; refine X21 ?_; clear hK K; refine Xm8 ?_; refine X2c ?_; go_upto_region 11 with fail; refine Xv ?_; refine Xm9 ?_; refine X57 ?_; intro K hK; refine xad cf61 rfl _ rfl ?_; refine X1z ?_; (with_reducible refine (xhw ⟨ps, svv⟩ bs ls _ (hbrd.at HL) ((htxr _ _ (by intro x hx; rcases List.mem_append.1 hx with h | h <;> simp [h]) HL).mono (Nat.zero_le _))).mono ?_); rintro e w ⟨se, le, er2, rfl, hb, hte, _, _⟩; replace HL := HL.next hb; clear hb; refine X6o ?_; clear hK K; by_cases he2 : er2 = 0
          · have k1 : (er2 == 0) = true := by rw [he2]; rfl
            clear he2
            cases hcm : (Lib.compareBytes le l == 0) with
            | true =>
              have k6 : (!(Lib.compareBytes le l == 0)) = false := by rw [hcm]; rfl
              clear hcm; go_upto_region 12 with fail; refine X14 ?_; refine Xma ?_; refine X75 ?_; intro K hK; refine Xbs ?_; refine Xmb ?_; rintro e w ⟨rfl, rfl⟩; refine X5q ?_; clear hK K; refine Xbu ?_; refine X2c ?_; go_upto_region 14 with fail; refine Xv ?_; refine Xm9 ?_; refine X5 ?_; refine Xmc ?_; refine X2u ?_; clear HL; intro w HL; go_wp2_with fail; refine Xm7 ?_; exact ⟨⟨ps, svv⟩, 0, bs, ls, rfl, HBK2 _ _ HL, hbrd.at HL, hpf2, htxr _ _ (by intro x hx; rcases List.mem_append.1 hx with h | h <;> simp [h]) HL⟩
            | false =>
              have k6 : (!(Lib.compareBytes le l == 0)) = true := by rw [hcm]; rfl
              clear hcm; go_upto_region 12 with fail; refine X14 ?_; refine Xma ?_; refine X75 ?_; intro K hK; refine Xbs ?_; refine Xmb ?_; rintro e w ⟨rfl, rfl⟩; refine X5q ?_; clear hK K; refine Xbv ?_; refine X2c ?_; go_upto_region 13 with fail; refine Xm6 ?_; clear HL; intro w HL; go_wp2_with fail; refine Xm7 ?_; exact SdO.bad 10 (HBK2 _ _ HL)
          · have k1 : (er2 == 0) = false := nB he2
            clear he2; go_upto_region 12 with fail; refine X14 ?_; refine X74 ?_; refine X73 ?_; go_upto_region 13 with fail; refine Xm6 ?_; clear HL; intro w HL; go_wp2_with fail; refine Xm7 ?_; exact SdO.bad 10 (HBK2 _ _ HL)
        · have k4 : (er == 0) = false := nB he
          clear he; go_upto_region 9 with fail; refine X1y ?_; intro K hK; refine Xm5 ?_; rintro e w ⟨rfl, rfl⟩; refine X21 ?_; clear hK K; refine Xmd ?_; refine X2c ?_; go_upto_region 10 with fail; refine Xm6 ?_; clear HL; intro w HL; go_wp2_with fail; refine Xm7 ?_; exact SdO.bad 10 (HBK2 _ _ HL)
    have CB : ∀ (u : World), Loc w1 D1 ((g5, 52, (⟨Sv.nil, svv⟩ : Spv).cells) :: (gr, 195, cs) :: (g2, 52, Spv.z.cells) :: (Gv ++ (GT ++ []))) u → RdL w1 D1 cs st → Hid (Calls Tryz.prog 59 #[.pointer (some ⟨gr, 0, none⟩)] u fun e w' => e = .returned (.bool (badB st)) ∧ u = w') := fun u hW hRR => hZ (xpf (i := 1) hW rfl hRR)
    obtain ⟨bs0, hbs0⟩ : ∃ b, badB st = b := ⟨_, rfl⟩; simp only [hbs0] at CB; clear hbs0
    cases bs0 with
    | true =>
      have k1 : decide ((0 : Int) < (j : Int)) = true := by simp; omega
      go_upto_region 4 with fail; refine X14 ?_; refine X71 ?_; refine X1o ?_; refine X5o ?_; intro K hK; refine Xaz ?_; (with_reducible refine ((CB _ HL hR).out).mono ?_); rintro e w ⟨rfl, rfl⟩; refine X5q ?_; clear hK K; refine Xb1 ?_; have hSTb : ∀ q, st = some q → q.length ≤ 140737488351232 := hST
      have hLB0 : -9223372036854775808 ≤ ((xck st : Nat) : Int) ∧ ((xck st : Nat) : Int) ≤ 9223372036854775807 := by
        cases st with
        | none => simp only [xck]; omega
        | some q => have := hST q rfl; simp only [xck]; omega
      go_upto_region 7 with fail; refine X2n ?_; intro K hK; refine Xb2 ?_; (with_reducible refine (xq3 (i := 1) HL rfl hR).mono ?_); rintro e w ⟨rfl, rfl⟩; refine Xa5 ?_; clear hK K; intro K hK; refine Xly ?_; rintro e w ⟨Gt, sT, cs2, rfl, hGt, hR2, HX2⟩; clear HL hR; have HL := HX2; clear HX2; simp only [qg, qh, qm, qo, qn] at HL; have htk := StS.takeL hST ((xck st : Nat) : Int); refine Xlz ?_; intro hTX; refine Xa5 ?_; clear hK K; intro K hK; refine xad cf9 rfl _ rfl ?_; refine X1z ?_; (with_reducible refine (xf8 sT _ _ hTX (by rw [hGt.len]; exact htk)).mono ?_); rintro e w ⟨ps, bs, er, rfl, hb, hps, hpf, hpn⟩; refine Xm0 ?_; intro HBK2 HNW; have hszB := HL.fr.size; have hR3 := hR2.turn HL hb; refine Xbm ?_; intro hfr; refine Xm1 ?_; intro hnw; replace HL := HL.after hb; clear hb hR2 hTX HNW; obtain ⟨w2, rfl⟩ := eW w; generalize Rest w2 _ = D2 at HL HBK2 hR3 hfr
      refine X5c ?_; clear hK K; refine xah zr44 rfl rfl HL ?_; clear HL; intro g7 w HL; refine X5 ?_; refine Xm2 ?_; refine X2u ?_; clear HL; intro w HL; have hbrd := hps.dD hpf hfr; refine Xm3 ?_; intro hpf2
      have htxr : ∀ (L : List (Nat × Nat × List Value)) (W : World), (∀ x ∈ Gv ++ GT, x ∈ L) → Loc w2 D2 L W → TxR w0.heap.size W svv ls := fun L W hm hW =>
        ⟨⟨vs, hGv.rdm (fun x hx => hm x (List.mem_append.2 (.inl hx))) hW, hGT.all (fun x hx => hm x (List.mem_append.2 (.inr hx))) (fun x hx => hnw x (List.mem_append.2 (.inr hx))) hW⟩, hGv.fars (fun x hx => hnw x (List.mem_append.2 (.inl hx))), by rw [← hGT.len]; exact hGv.len.symm, hGv.cap.1⟩
      clear hps hpf hfr; go_upto_region 8 with fail; refine Xgd ?_; refine X5 ?_; refine Xl3 ?_; refine X5 ?_; refine xaw sc42 rfl _ _ rfl HL 1 g5 0 52 _ (⟨ps, svv⟩ : Spv).cells ps.v rfl rfl rfl rfl (by rw [Spv.len]; decide) (Spv.s_parts _ _) ?_; refine X2y ?_; clear HL; intro w HL; refine Xm4 ?_; intro CB2; generalize badB (xbt st ((xck st : Nat) : Int)) = bb at CB2
      cases bb with
      | true =>
        go_upto_region 9 with fail; refine X1y ?_; intro K hK; refine Xm5 ?_; rintro e w ⟨rfl, rfl⟩; refine X21 ?_; clear hK K; refine X2g ?_; refine X2b ?_; go_upto_region 10 with fail; refine Xm6 ?_; clear HL; intro w HL; go_wp2_with fail; refine Xm7 ?_; exact SdO.bad 10 (HBK2 _ _ HL)
      | false =>
        by_cases he : er = 0
        · have k4 : (er == 0) = true := by rw [he]; rfl
          clear he; go_upto_region 9 with fail; refine X1y ?_; intro K hK; refine Xm5 ?_; rintro e w ⟨rfl, rfl⟩; refine X21 ?_; clear hK K; refine Xm8 ?_; refine X2c ?_; go_upto_region 11 with fail; refine Xv ?_; refine Xm9 ?_; refine X57 ?_; intro K hK; refine xad cf61 rfl _ rfl ?_; refine X1z ?_; (with_reducible refine (xhw ⟨ps, svv⟩ bs ls _ (hbrd.at HL) ((htxr _ _ (by intro x hx; rcases List.mem_append.1 hx with h | h <;> simp [h]) HL).mono (Nat.zero_le _))).mono ?_); rintro e w ⟨se, le, er2, rfl, hb, hte, _, _⟩; replace HL := HL.next hb; clear hb; refine X6o ?_; clear hK K; by_cases he2 : er2 = 0
          · have k1 : (er2 == 0) = true := by rw [he2]; rfl
            clear he2
            cases hcm : (Lib.compareBytes le l == 0) with
            | true =>
              have k6 : (!(Lib.compareBytes le l == 0)) = false := by rw [hcm]; rfl
              clear hcm; go_upto_region 12 with fail; refine X14 ?_; refine Xma ?_; refine X75 ?_; intro K hK; refine Xbs ?_; refine Xmb ?_; rintro e w ⟨rfl, rfl⟩; refine X5q ?_; clear hK K; refine Xbu ?_; refine X2c ?_; go_upto_region 14 with fail; refine Xv ?_; refine Xm9 ?_; refine X5 ?_; refine Xmc ?_; refine X2u ?_; clear HL; intro w HL; go_wp2_with fail; refine Xm7 ?_; exact ⟨⟨ps, svv⟩, 0, bs, ls, rfl, HBK2 _ _ HL, hbrd.at HL, hpf2, htxr _ _ (by intro x hx; rcases List.mem_append.1 hx with h | h <;> simp [h]) HL⟩
            | false =>
              have k6 : (!(Lib.compareBytes le l == 0)) = true := by rw [hcm]; rfl
              clear hcm; go_upto_region 12 with fail; refine X14 ?_; refine Xma ?_; refine X75 ?_; intro K hK; refine Xbs ?_; refine Xmb ?_; rintro e w ⟨rfl, rfl⟩; refine X5q ?_; clear hK K; refine Xbv ?_; refine X2c ?_; go_upto_region 13 with fail; refine Xm6 ?_; clear HL; intro w HL; go_wp2_with fail; refine Xm7 ?_; exact SdO.bad 10 (HBK2 _ _ HL)
          · have k1 : (er2 == 0) = false := nB he2
            clear he2; go_upto_region 12 with fail; refine X14 ?_; refine X74 ?_; refine X73 ?_; go_upto_region 13 with fail; refine Xm6 ?_; clear HL; intro w HL; go_wp2_with fail; refine Xm7 ?_; exact SdO.bad 10 (HBK2 _ _ HL)
        · have k4 : (er == 0) = false := nB he
          clear he; go_upto_region 9 with fail; refine X1y ?_; intro K hK; refine Xm5 ?_; rintro e w ⟨rfl, rfl⟩; refine X21 ?_; clear hK K; refine Xmd ?_; refine X2c ?_; go_upto_region 10 with fail; refine Xm6 ?_; clear HL; intro w HL; go_wp2_with fail; refine Xm7 ?_; exact SdO.bad 10 (HBK2 _ _ HL)
    | false =>
      cases j with
      | zero => exfalso; omega
      | succ i =>
        have HI : Hid (((i + 1 : Nat) : Int) - 1 = (i : Int)) := hZ (by omega); have k1 : decide ((0 : Int) < ((i + 1 : Nat) : Int)) = true := by simp only [decide_eq_true_eq]; omega
        have hSTb : ∀ q, st = some q → q.length ≤ 140737488351232 := hST; have hN2 := xsh st; have hST1 : StS (xbt st 2) := StS.take hST 2; have hST1b : ∀ q, xbt st 2 = some q → q.length ≤ 140737488351232 := hST1; go_upto_region 4 with fail; refine X14 ?_; refine X71 ?_; refine X1o ?_; refine X5o ?_; intro K hK; refine Xaz ?_; (with_reducible refine ((CB _ HL hR).out).mono ?_); rintro e w ⟨rfl, rfl⟩; refine X5q ?_; clear hK K; refine Xbb ?_; refine X2c ?_; have HX := HL; replace HL := HL.drop [(g5, 52, (⟨Sv.nil, svv⟩ : Spv).cells)] (by simp); go_upto_region 6 with fail; refine rB (Loc.P HL) [9] [4, 5, 6, 7, 9] [0, 1, 2, 3, 4, 5, 6, 7, 8, 9] 0 ?_; refine X37 ?_; intro HL; refine Xlf ?_; refine X5 ?_; refine xac rfl rfl HL (fun W hW => xag sc50 hW _ rfl _ _ rfl _ _ _ (.head _) (Spv.g_vals _)) ?_; refine X6k ?_; refine Xj ?_; intro K hK; refine Xar ?_
        (with_reducible refine (u16_L (i := 1) HX.drew rfl hR hSTb).mono ?_); rintro e w ⟨rfl, cs1, hR1, HX1⟩; simp only [qg, qh] at HX1; replace HL := HX1.drop [(g5, 52, (⟨Sv.nil, svv⟩ : Spv).cells)] (by simp); refine X6m ?_; clear hK K; intro K hK; refine Xax ?_; (with_reducible refine (xf2 (i := 1) HX1 rfl hR1 ((numL st 2 : Nat) : Int) (by omega) hST1b).mono ?_); rintro e w ⟨Gt, sT, cs2, rfl, hGt, hR2, HX2⟩; simp only [qg, qh, qm, qo, qn] at HX2; replace HL := HX2.drop [(g5, 52, (⟨Sv.nil, svv⟩ : Spv).cells)] (by simp); refine X6m ?_; clear hK K; intro K hK; refine xds sl50 el25 1 _ rfl HX2 [Sv.v sT] (by simp [Sv.v, Value.oneCell']) rfl (by omega) (by omega) (by simp [Act.eval]) ?_; clear HL; intro g29 w HX3; have HL := HX3.drop [(g5, 52, (⟨Sv.nil, svv⟩ : Spv).cells)] (by simp); refine X3x ?_; clear hK K; intro K hK
        refine xam sl50 el25 _ _ rfl [_, _, _, _] _ svv _ hGv HX3 rfl ⟨g29, 0, none⟩ 1 1 [Sv.v sT] rfl (Rd.of_blk0 (es := []) (by rw [List.append_nil]; exact HX3.blk (.head _))) rfl (by simp [Sv.v, Value.oneCell']) (by omega) (by omega) (by omega) ?_; clear HL; intro svv' Gv' w hGv' HX4; simp only [qm, qn] at HX4; have HL := HX4.drop [(g5, 52, (⟨Sv.nil, svv⟩ : Spv).cells)] (by simp); refine X3w ?_; clear hK K; refine Xlf ?_; refine Xk ?_; intro K hK; refine xbh sc50 _ _ rfl HX4 1 g5 1 52 _ (⟨Sv.nil, svv'⟩ : Spv).cells svv'.v rfl rfl rfl rfl (by rw [Spv.len]; decide) (Spv.s_vals _ _) ?_; clear HL; intro w HX5; simp only [qg, qh] at HX5; refine Xak ?_; clear hK K; clear HX HX1 HX2 HX3 HX4; have HL := HX5.drop _ (sB _ _); clear HX5; go_upto_region 5 with fail; refine X14 ?_; refine X96 ?_; refine X1c ?_; go_wp2_with fail; go_roundw
        case rel =>
          refine ⟨i, _, cs2, svv', vs ++ [sT], ls ++ [xbw (xbt st 2) ((numL st 2 : Nat) : Int)], Gv', GT ++ Gt, rfl, by rw [List.length_append]; simp only [qr, qs]; omega, hR2, StS.take hST1 _, by rw [List.length_append, List.map_append]; exact hGv', .snoc hGT hGt, by simpa [List.append_assoc] using HL⟩
        case measure => simp [intOf] <;> omega
end
end Go.Proofs.YtkjjdgnkelchfaaGreat
