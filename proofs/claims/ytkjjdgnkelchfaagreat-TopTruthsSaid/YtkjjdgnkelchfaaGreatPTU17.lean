import Derived.Test.YtkjjdgnkelchfaaGreatPTU16
set_option linter.unusedSimpArgs false
set_option linter.unusedVariables false
set_option maxRecDepth 100000
set_option maxHeartbeats 16000000
namespace Go.Proofs.YtkjjdgnkelchfaaGreat
open Go Go.RowKit
def Rise (ks : List D32) : Prop := ∀ (i : Nat) (h : i + 1 < ks.length), cmpZ (nOf ks[i].l) (nOf ks[i + 1].l) < 0
def riseB (ks : List D32) : Bool := (List.range (ks.length - 1)).all fun i => decide (cmpZ (nOf (ks.getD i D32.z).l) (nOf (ks.getD (i + 1) D32.z).l) < 0)
theorem xl7 (ks : List D32) : riseB ks = true ↔ Rise ks := by
  unfold riseB Rise; simp only [List.all_eq_true, List.mem_range, decide_eq_true_eq]; constructor
  · intro h i hi
    have := h i (by omega); simpa [List.getD, hi, show i < ks.length by omega] using this
  · intro h i hi
    have h2 := h i (by omega); simpa [List.getD, show i + 1 < ks.length by omega, show i < ks.length by omega] using h2
def rdM (ks : List D32) (bs : List Brv) : Option D32 := if 64 < ks.length ∨ 65536 < bs.length then none else match plM ks 256 bs 0 ks.length D32.z 0 with
  | some (h, []) => some h
  | _ => none
def WyR (N : Nat) (w : World) (ways : Sv) (n : Nat) : Prop := ∃ xs : List Prv, Rd w ways.A (xs.flatMap Prv.cells) ∧ xs.length = n ∧ ways.n = n ∧ n ≤ ways.c ∧ (∀ ad, ways.A = some ad → N ≤ ad.block) ∧ ∀ x ∈ xs, ∃ ds, Sds w x.sides ds ∧ ∀ ad, x.sides.A = some ad → N ≤ ad.block
def MrO (N : Nat) (w0 : World) (q : Option D32) (n : Nat) (e : Ending) (w' : World) : Prop := ∃ (h : D32) (ways : Sv) (er : Int), e = .returned (.tuple #[h.a, ways.v, .int .i64 er]) ∧ Below N w0 w' ∧ ((er = 0 ∧ q = some h ∧ WyR N w' ways n) ∨ ((er == 0) = false ∧ q = none))
def rdQ (ks : List D32) (bs : List Brv) : Option D32 := if riseB ks = true then rdM ks bs else none
theorem xri {P : Program} {T : TypeId} {w0 w : World} {D : Nat → Prop} {L : List (Nat × Nat × List Value)} {o : Oper} {a : Act} {K : Act → World → Prop} {Q : Exit → Act → World → Prop} (x : Operand) (ho : o.op = .box T x) (H : Loc w0 D L w) (cs : List Value) (hx : a.eval x = .agg cs.toArray)
    (h : ∀ g w', Loc w0 D ((g, T, cs) :: L) w' → K (a.put o.dst (.pointer (some ⟨g, 0, none⟩))) w') : o.wp P a w K Q := by
  have e : (execOp a.eval o).run P w = .ok (.value (.pointer (some ⟨w.heap.size, 0, none⟩))) (w.alloc (.cells cs.toArray T)) := by
    unfold execOp; simp [ho, hx, Instr.box, newVar, newRow, Value.cells]
  unfold Oper.wp; rw [e]; exact h _ _ (H.new T cs)
theorem Wys.out {M : Nat} {Gs : List (Nat × Nat × List Value)} {xs : List Prv} (h : Wys M Gs xs) {w0 w : World} {D : Nat → Prop} {L : List (Nat × Nat × List Value)} {N : Nat} (H : Loc w0 D L w) (hm : ∀ y ∈ Gs, y ∈ L) (hN : ∀ y ∈ Gs, N ≤ y.1) : ∀ x ∈ xs, ∃ ds, Sds w x.sides ds ∧ ∀ ad, x.sides.A = some ad → N ≤ ad.block := by
  induction h with
  | nil => intro x hx; cases hx
  | @cons Gs G xs x ds h1 h2 hs ih =>
    intro y hy; rcases List.mem_cons.1 hy with rfl | hy
    · exact ⟨ds, ⟨h1.rdm (fun z hz => hm z (List.mem_append.2 (.inl hz))) H, h1.len.symm, h1.cap.1⟩, h1.fars (fun z hz => hN z (List.mem_append.2 (.inl hz)))⟩
    · exact ih (fun z hz => hm z (List.mem_append.2 (.inr hz))) (fun z hz => hN z (List.mem_append.2 (.inr hz))) y hy
theorem xur (W0 : World) (D : Nat → Prop) (A : Option Addr) (n c : Nat) (ks : List D32) (hKY : KyD D W0 A n c ks) (gr gw : Nat) (hn : n ≤ 1000) (ps : Sv) (bs : List Brv) (X : List (Nat × Nat × List Value)) (w : World) (hB : BrD D W0 ps bs) (hb : bs.length ≤ 65536)
    (H : Loc W0 D ((gr, 199, rdrC ps tagE ⟨some ⟨gw, 0, none⟩, n, n⟩) :: (gw, 34, (List.replicate n Prv.z).flatMap Prv.cells) :: X) w) :
    Calls Tryz.prog 109 #[.pointer (some ⟨gr, 0, none⟩), .slice A n c, .int .i64 0, .int .i64 (n : Int), D32.z.a, .int .i64 0] w (PlO W0 D X gr gw ⟨some ⟨gw, 0, none⟩, n, n⟩ n 0 bs.length (plM ks 256 bs 0 n D32.z 0)) :=
  xuq W0 D A n c ks hKY gr gw hn 256 0 X ps bs (List.replicate n Prv.z) [] 0 0 n D32.z w rfl hB (wys_zero n) (by simp) ⟨Nat.zero_le _, Nat.le_refl _⟩ (by omega) H
section
variable {w w' : World}
theorem xrj (A : Option Addr) (n c : Nat) (ks : List D32) (ps : Sv) (bs : List Brv) (w : World) (hK : KyS w A n c ks) (hB : BrS w ps bs) (hnn : n ≤ 140737488351232) : Calls Tryz.prog 57 #[.slice A n c, mval ps] w (MrO w.heap.size w (rdQ ks bs) n) := by
  have HKS := hZ hK; have HBS := hZ hB; have HKL := hZ hK.len; have HBL := hZ hB.len; clear hK hB; have HL := Loc.start w; obtain ⟨w0, rfl⟩ := eW w; obtain ⟨q, hq⟩ : ∃ q, rdQ ks bs = q := ⟨_, rfl⟩; rw [hq]; have HQ := hZ hq; clear hq; go_enter Tryz.func57, Tryz.ntmps57; go_upto_region 0 with fail; refine X35 ?_; clear HL; intro g3 w HL; refine X5 ?_; refine xah zr23 rfl rfl HL ?_; clear HL; intro g4 w HL; refine X1j ?_; by_cases h64 : 64 < n
  · have k2 : decide ((64 : Int) < (n : Int)) = true := by simp; omega
    go_upto_region 1 with fail; refine X14 ?_; refine Xhk ?_; refine xaa rfl _ (xa4 (b := true) _ _ rfl _ _ rfl rfl k2) ?_; refine X73 ?_; go_upto_region 2 with fail; refine Xi2 ?_; refine Xiy ?_; clear HL; intro w HL; go_wp2_with fail; refine Xf ?_; refine Xiz ?_; refine ⟨D32.z, Sv.nil, 4, rfl, HL.below, .inr ⟨rfl, ?_⟩⟩; rw [← HQ.out]; unfold rdQ
    split
    · unfold rdM
      rw [if_pos (by have h1 := HKL.out; have h2 := HBL.out; omega)]
    · rfl
  have k2 : decide ((64 : Int) < (n : Int)) = false := by simp; omega
  by_cases hp : 65536 < ps.n
  · have k7 : decide ((65536 : Int) < (ps.n : Int)) = true := by simp; omega
    go_upto_region 1 with fail; refine X14 ?_; refine Xj0 ?_; refine X17 ?_; refine xab rfl _ (xaf xmo _ rfl _ rfl) ?_; refine Xj1 ?_; refine X5 ?_; refine Xj2 ?_; refine X5 ?_; refine xab rfl _ (xa4 (b := true) _ _ rfl _ _ rfl rfl k7) ?_; refine X2c ?_; go_upto_region 2 with fail; refine Xi2 ?_; refine Xiy ?_; clear HL; intro w HL; go_wp2_with fail; refine Xf ?_; refine Xiz ?_; refine ⟨D32.z, Sv.nil, 4, rfl, HL.below, .inr ⟨rfl, ?_⟩⟩; rw [← HQ.out]; unfold rdQ
    split
    · unfold rdM
      rw [if_pos (by have h1 := HKL.out; have h2 := HBL.out; omega)]
    · rfl
  have k7 : decide ((65536 : Int) < (ps.n : Int)) = false := by simp; omega
  go_upto_region 1 with fail; refine X14 ?_; refine Xj0 ?_; refine X17 ?_; refine xab rfl _ (xaf xmo _ rfl _ rfl) ?_; refine Xj1 ?_; refine X5 ?_; refine Xj2 ?_; refine X5 ?_; refine xab rfl _ (xa4 (b := false) _ _ rfl _ _ rfl rfl k7) ?_; refine X2c ?_; go_upto_region 3 with fail; refine X1k ?_; go_wp2_with fail
  go_loopw [7] (fun z wr => ∃ i : Nat, 1 ≤ i ∧ (i ≤ n ∨ i = 1) ∧ z = .int .i64 (i : Int) ∧ (∀ (j : Nat) (h : j + 1 < ks.length), j + 1 < i → cmpZ (nOf ks[j].l) (nOf ks[j + 1].l) < 0) ∧ Loc w0 (Old w0) [(g4, 23, D32.z.c), (g3, 44, [Sv.v ps])] wr) (fun z _ => (n - intOf z).toNat)
  case atStart => exact ⟨1, Nat.le_refl _, .inr rfl, rfl, fun j h h2 => by omega, HL⟩
  case round =>
    clear HL; obtain ⟨i, hi1, hi2, rfl, hz, HL⟩ := hrel; obtain ⟨w, rfl⟩ := eW wr; have HZ := hZ hz; clear hz; by_cases hlt : i < n
    · have k4 : decide ((i : Int) < (n : Int)) = true := by simp; omega
      obtain ⟨i, rfl⟩ : ∃ j, i = j + 1 := ⟨i - 1, by omega⟩; have hik : i + 1 < ks.length := by have := HKL.out; omega
      obtain ⟨ad, hA, hE1⟩ := HKS.out.at_ i (by omega); obtain ⟨ad', hA', hE2⟩ := HKS.out.at_ (i + 1) hik; rw [hA] at hA'; cases hA'; have HE1 := hZ hE1; have HE2 := hZ hE2; refine Xh3 ?_; intro HSV; clear hE1 hE2 hA; have HI : Hid (((i + 1 : Nat) : Int) - 1 = (i : Int)) := hZ (by omega); have HI2 : Hid (((i + 1 : Nat) : Int) + 1 = ((i + 1 + 1 : Nat) : Int)) := hZ (by omega); obtain ⟨cm, hcm⟩ : ∃ cm, cmpZ (nOf ks[i].l) (nOf ks[i + 1].l) = cm := ⟨_, rfl⟩; have CC := fun u => hZ (xcw u ks[i] ks[i + 1])
      simp only [hcm] at CC; have HCM := hZ hcm; clear hcm; obtain ⟨ka, hka⟩ : ∃ ka, ks[i] = ka := ⟨_, rfl⟩; obtain ⟨kb, hkb⟩ : ∃ kb, ks[i + 1] = kb := ⟨_, rfl⟩; rw [hka] at HE1; rw [hkb] at HE2; simp only [hka, hkb] at CC; clear hka hkb; generalize hi1e : i + 1 = i1 at HI HI2 HE2 k4 hlt CC; have HI1E := hZ hi1e; clear hi1e; by_cases hge : (0 : Int) ≤ cm
      · have k10 : decide ((0 : Int) ≤ cm) = true := by simpa using hge
        go_upto_region 4 with fail; refine Xhl ?_; refine Xj3 ?_; refine X22 ?_; go_upto_region 6 with fail; refine X9x ?_; refine X3u ?_; intro HL; refine Xj4 ?_; refine xac rfl rfl HL (fun W hW => xaz sl26 (.tmp 28) _ rfl ad n c i .i64 HSV.out rfl (by have := HI1E.out; omega)) ?_; refine X5 ?_; refine Xj5 ?_; refine X6k ?_; refine Xj6 ?_; refine X5 ?_; refine Xj7 ?_; refine Xk ?_; intro K hK; refine Xj8 ?_; refine Xgl ?_; refine X6s ?_; clear hK K; intro w HL; refine Xj9 ?_; go_upto_region 7 with fail; refine Xi2 ?_; refine Xiy ?_; clear HL; intro w HL; go_wp2_with fail; refine Xf ?_; refine Xiz ?_; refine ⟨D32.z, Sv.nil, 2, rfl, HL.below, .inr ⟨rfl, ?_⟩⟩; rw [← HQ.out]; unfold rdQ; rw [if_neg]; intro hr; have := (xl7 ks).1 hr i hik; rw [HCM.out] at this; omega
      · have k10 : decide ((0 : Int) ≤ cm) = false := by simpa using hge
        go_upto_region 4 with fail; refine Xhl ?_; refine Xj3 ?_; refine X22 ?_; go_upto_region 6 with fail; refine X9x ?_; refine X3u ?_; intro HL; refine Xj4 ?_; refine xac rfl rfl HL (fun W hW => xaz sl26 (.tmp 28) _ rfl ad n c i .i64 HSV.out rfl (by have := HI1E.out; omega)) ?_; refine X5 ?_; refine Xj5 ?_; refine X6k ?_; refine Xj6 ?_; refine X5 ?_; refine Xj7 ?_; refine Xk ?_; intro K hK; refine Xj8 ?_; refine Xgl ?_; refine X6s ?_; clear hK K; intro w HL; refine Xj9 ?_; go_upto_region 5 with fail; refine X14 ?_; refine xaa rfl _ (xbr _ _ rfl _ _ _ rfl rfl HI2.out (by omega)) ?_; refine X1c ?_; go_wp2_with fail; go_roundw
        case rel =>
          refine ⟨i1 + 1, by omega, .inl (by omega), rfl, fun j h h2 => ?_, HL⟩; by_cases hji : j = i
          · subst hji
            have := HCM.out; omega
          · exact HZ.out j h (by have := HI1E.out; omega)
        case measure => simp [intOf] <;> omega
    · have k4 : decide ((i : Int) < (n : Int)) = false := by simp; omega
      have hrise : Rise ks := fun j h => HZ.out j h (by have := HKL.out; omega)
      have HQ2 : Hid (rdM ks bs = q) := hZ (by rw [← HQ.out]; unfold rdQ; rw [if_pos ((xl7 ks).2 hrise)]); clear hrise HQ HZ
      have hKYD : KyD (Old w0) w0 A n c ks := ⟨HKS.out, fun hne ad e => by
        obtain ⟨ad', e', hc⟩ := HKS.out.rd (by rw [xbx D32.cl]; have := List.length_pos_iff.2 hne; omega); rw [e] at e'; cases e'; have := World.block_lt_of_cell? _ _ (hc 0 _ (List.getElem?_eq_getElem (by rw [xbx D32.cl]; have := List.length_pos_iff.2 hne; omega)))
        rwa [show (ad.add 0).block = ad.block by unfold Addr.add; split <;> rfl] at this⟩
      have hBRD : BrD (Old w0) w0 ps bs := ⟨HBS.out, fun hne ad e => by
        obtain ⟨ad', e', hc⟩ := HBS.out.rd (by rw [xbx Brv.len]; have := List.length_pos_iff.2 hne; omega); rw [e] at e'; cases e'; have := World.block_lt_of_cell? _ _ (hc 0 _ (List.getElem?_eq_getElem (by rw [xbx Brv.len]; have := List.length_pos_iff.2 hne; omega)))
        rwa [show (ad.add 0).block = ad.block by unfold Addr.add; split <;> rfl] at this⟩
      go_upto_region 4 with fail; refine Xhl ?_; refine Xj3 ?_; refine X22 ?_; generalize hLB : [(g4, 23, D32.z.c), (g3, 44, [Sv.v ps])] = LB at HL; have hm3 : (g3, 44, [Sv.v ps]) ∈ LB := by rw [← hLB]; exact .tail _ (.head _)
      have hn1000 : n ≤ 1000000 := by omega
      go_upto_region 8 with fail
      go_cut [8] from 40 to 47 (fun p wx => ∃ gr gw, p = .pointer (some ⟨gr, 0, none⟩) ∧ Loc w0 (Old w0) ((gr, 199, rdrC ps tagE ⟨some ⟨gw, 0, none⟩, n, n⟩) :: (gw, 34, (List.replicate n Prv.z).flatMap Prv.cells) :: LB) wx)
      case first =>
        have HX := HL.drew; refine rB (Loc.P HL) [] [2, 5, 7] [0, 1, 3, 4] 5 ?_; refine X37 ?_; intro HL; refine xac rfl rfl HL (fun W hW => xaf xmo _ rfl _ rfl) ?_; refine X5 ?_; refine xac rfl rfl HL (fun W hW => xag sc42 hW _ rfl _ _ rfl _ _ _ hm3 rfl) ?_; refine X3d ?_; refine Xja ?_; refine X5 ?_; refine xcl [2, 5] (by kernel_rfl) ?_; refine X2 ?_; refine ⟨⟨rfl, ?_⟩, ⟨rfl, ?_⟩, trivial⟩
        · intro K hK
          refine Xa8 ?_; refine X1z ?_; refine Xa9 ?_; refine Xde ?_; intro w hb HL HX; clear hb; refine X65 ?_; clear hK K; refine xbj [5, 6, 7, 8] 0 (by kernel_rfl) ?_; refine Xd5 ?_; intro K hK; refine xpy _ _ rfl HX n rfl rfl hn1000 ?_; clear HX HL; intro gw w HX; refine Xe3 ?_; intro HL; refine X3w ?_; clear hK K; refine Xjb ?_; refine Xk ?_; intro K hK; refine xri _ rfl HX (rdrC ps tagE ⟨some ⟨gw, 0, none⟩, n, n⟩) rfl ?_; clear HX HL; intro gr w HX; have HL : Loc w0 (Old w0) LB w := HX.drop _ ((sB _ _).trans (sB _ _)); refine Xa0 ?_; clear hK K; go_wp2_with fail; go_meet
          case rel => exact ⟨gr, gw, rfl, HX⟩
        · intro K hK
          refine xpy _ _ rfl HX n rfl rfl hn1000 ?_; clear HX HL; intro gw w HX; refine Xe3 ?_; intro HL; refine X3w ?_; clear hK K; refine xbj [2, 6, 7, 8] 0 (by kernel_rfl) ?_; refine Xd5 ?_; intro K hK; refine Xa8 ?_; refine X1z ?_; refine Xa9 ?_; refine Xde ?_; intro w hb HL HX; clear hb; refine X65 ?_; clear hK K; refine Xjb ?_; refine Xk ?_; intro K hK; refine xri _ rfl HX (rdrC ps tagE ⟨some ⟨gw, 0, none⟩, n, n⟩) rfl ?_; clear HX HL; intro gr w HX; have HL : Loc w0 (Old w0) LB w := HX.drop _ ((sB _ _).trans (sB _ _)); refine Xa0 ?_; clear hK K; go_wp2_with fail; go_meet
          case rel => exact ⟨gr, gw, rfl, HX⟩
      case rest =>
        clear HL; obtain ⟨gr, gw, rfl, HL⟩ := hcut; obtain ⟨w, rfl⟩ := eW wc; subst hLB; clear hm3; have hbl2 : bs.length ≤ 65536 := by have := HBL.out; omega
        go_upto_region 9 with fail; refine X6f ?_; refine Xhk ?_; refine Xc2 ?_; refine X57 ?_; intro K hK; refine xad cf109 rfl _ rfl ?_; refine X1z ?_; (with_reducible refine (xur w0 (Old w0) A n c ks hKYD gr gw (by omega) ps bs [(g4, 23, D32.z.c), (g3, 44, [Sv.v ps])] _ hBRD hbl2 HL).mono ?_); rintro e w ⟨h, ok, rest2, bs2, xs, Gs, rfl, hB2, hR2, hW, hxl, HL2, hpl⟩; clear HL; have HL := Loc.outX (X := []) [(g4, 23, D32.z.c), (g3, 44, [Sv.v ps])] HL2; clear HL2; simp only [qm, qn] at HL; refine X5c ?_; clear hK K; refine xah zr23 rfl rfl HL ?_; clear HL; intro g9 w HL; refine X93 ?_; clear HL; intro w HL; have HXL := hZ hxl; clear hxl; rcases hpl with ⟨rfl, hpl⟩ | ⟨rfl, hpl⟩
        · have HPL := hZ hpl
          clear hpl; by_cases hr : (0 : Int) < (rest2.n : Int)
          · have k8 : decide ((0 : Int) < (rest2.n : Int)) = true := by simpa using hr
            go_upto_region 10 with fail; refine Xbq ?_; refine X1q ?_; refine Xi5 ?_; refine Xjc ?_; refine X5 ?_; refine Xj2 ?_; refine X5 ?_; refine xab rfl _ (xa4 _ _ rfl _ _ rfl rfl k8) ?_; refine X2c ?_; go_upto_region 11 with fail; refine Xit ?_; refine Xes ?_; clear HL; intro w HL; go_wp2_with fail; refine Xf ?_; refine Xjd ?_; refine ⟨D32.z, Sv.nil, 11, rfl, HL.below, .inr ⟨rfl, ?_⟩⟩; rw [← HQ2.out]; unfold rdM; rw [if_neg (by have h1 := HKL.out; have h2 := HBL.out; omega)]; rw [HKL.out, HPL.out]
            cases bs2 with
            | nil => have h3 := hB2.s.len; simp only [qs] at h3; omega
            | cons b2 bs2 => rfl
          · have k8 : decide ((0 : Int) < (rest2.n : Int)) = false := by simpa using hr
            have hb0 : bs2 = [] := List.eq_nil_of_length_eq_zero (by have h3 := hB2.s.len; omega); subst hb0; go_upto_region 10 with fail; refine Xbq ?_; refine X1q ?_; refine Xi5 ?_; refine Xjc ?_; refine X5 ?_; refine Xj2 ?_; refine X5 ?_; refine xab rfl _ (xa4 _ _ rfl _ _ rfl rfl k8) ?_; refine X2c ?_; go_upto_region 12 with fail; refine X16 ?_; refine xaa rfl _ (xaf xmv _ rfl _ rfl) ?_; refine X5 ?_; refine Xje ?_; refine X5 ?_; refine xaa rfl _ (xa8 Tryz.underlying128 _ rfl _ _ _ rfl) ?_; refine X1h ?_; obtain ⟨MM, hMM⟩ : ∃ MM, 0 + 2 * (bs.length - ([] : List Brv).length) = MM := ⟨_, rfl⟩; rw [hMM] at hW; have hMMb : MM ≤ 200000 := by rw [← hMM]; omega
            clear hMM; go_wp2_with fail
            go_loopw [73] (fun z wr => ∃ (i : Nat) (Gs : List (Nat × Nat × List Value)), i ≤ n ∧ z = .int .i64 (i : Int) ∧ Wys MM Gs xs ∧ Loc w0 (Old w0) ((g9, 23, h.c) :: (g4, 23, D32.z.c) :: (g3, 44, [Sv.v ps]) :: (gr, 199, rdrC rest2 tagE ⟨some ⟨gw, 0, none⟩, n, n⟩) :: (gw, 34, xs.flatMap Prv.cells) :: (Gs ++ [])) wr) (fun z _ => (n - intOf z).toNat)
            case atStart => exact ⟨0, Gs, Nat.zero_le _, rfl, hW, HL⟩
            case round =>
              clear HL hW Gs; obtain ⟨i, Gs, hi, rfl, hW, HL⟩ := hrel; obtain ⟨w, rfl⟩ := eW wr; by_cases hlt : i < n
              · have k13 : decide ((i : Int) < (n : Int)) = true := by simp; omega
                refine Xaa ?_; intro HI; have hix : i < xs.length := by have := HXL.out; omega
                obtain ⟨GA, G, GB, ys, x, zs, ds, e1, e2, e3, hWA, hG, hdm, hWB⟩ := hW.split i hix; have hget := xj0 Prv.len xs [] i 0 hix (by decide); have hxi : xs[i] = x := by subst e2; subst e3; simp
                rw [List.append_nil, hxi, Prv.g_sides, Nat.add_zero] at hget; have HX : Loc w0 (Old w0) (((g9, 23, h.c) :: (g4, 23, D32.z.c) :: (g3, 44, [Sv.v ps]) :: (gr, 199, rdrC rest2 tagE ⟨some ⟨gw, 0, none⟩, n, n⟩) :: (gw, 34, xs.flatMap Prv.cells) :: GA) ++ (G ++ (GB ++ []))) w := by rw [e1] at HL; simpa [List.append_assoc] using HL
                have E2 := hZ e2; clear e1 hxi e2 e3; go_upto_region 13 with fail; refine Xv ?_; refine xaa rfl _ (xcj _ _ rfl _ _ rfl rfl k13) ?_; refine X22 ?_; go_upto_region 14 with fail; refine X6x ?_; go_upto_region 15 with fail; refine X16 ?_; refine xaa rfl _ (xaf xmv _ rfl _ rfl) ?_; refine X5 ?_; refine Xje ?_; refine X17 ?_; refine xaa rfl _ (xbe xoj _ _ rfl gw n n i .i64 rfl rfl hlt) ?_; refine X5 ?_; refine xaa rfl _ (xcr xh8 _ rfl _ _ rfl) ?_; refine X5 ?_; refine xaa rfl _ (xag sc29 HL _ rfl _ _ rfl _ _ _ (.tail _ (.tail _ (.tail _ (.tail _ (.head _))))) hget) ?_; refine X57 ?_; intro K hK; refine xad cf110 rfl _ rfl ?_; refine X1z ?_; (with_reducible refine (xsn x.sides ds _ hG (by omega) HX).mono ?_); rintro e w ⟨rfl, G', hG', HX'⟩; clear HL HX; refine X23 ?_; clear hK K; go_upto_region 16 with fail
                refine Xaf ?_; go_wp2_with fail; go_roundw
                case rel =>
                  refine ⟨i + 1, GA ++ (G' ++ GB), by omega, rfl, ?_, by simpa [List.append_assoc] using HX'⟩; rw [E2.out]; exact hWA.app (.cons (ds := ds.reverse) (by rw [List.length_reverse]; exact hG') (by rw [List.length_reverse]; exact hdm) hWB)
                case measure => simp [intOf] <;> omega
              · have k13 : decide ((i : Int) < (n : Int)) = false := by simp; omega
                go_upto_region 13 with fail; refine Xv ?_; refine xaa rfl _ (xcj _ _ rfl _ _ rfl rfl k13) ?_; refine X22 ?_; obtain ⟨HX, hb4, hn4, hne4⟩ := HL.out (L0 := [_]); clear HL; have HL := HX; clear HX; simp only [qm, qn] at HL hne4; go_upto_region 17 with fail; refine rB (Loc.P HL) [] [5] [0, 1, 2, 3, 4, 5, 6, 7] 0 ?_; refine X37 ?_; intro HL; refine X62 ?_; refine X3d ?_; refine X3a ?_; refine Xhq ?_; refine X5 ?_; refine xac rfl rfl HL (fun W hW => xag sc128 hW _ rfl _ _ rfl _ _ _ (.tail _ (.tail _ (.head _))) (xrf _ _ _)) ?_; refine Xk ?_; intro K hK; refine xav ag23.i _ _ rfl g4 0 23 _ _ rfl rfl hb4.drew (D32.cl _) (by rw [D32.cl]; decide) (D32.c1 _) ?_; intro w' hb' hg' _; replace HL := HL.aside hg' hn4 hne4; replace hb4 := xei hb'; refine X3w ?_; clear hK K; refine X4y ?_; go_wp2_with fail; refine Xf ?_
                refine bodyPost_ret (xgf rfl ag23 _ _ g4 23 _ rfl hb4 (D32.cl _)) rfl ?_; have hnew : ∀ y ∈ (gw, 34, xs.flatMap Prv.cells) :: (Gs ++ []), w0.heap.size ≤ y.1 := fun y hy => Nat.le_of_not_lt (HL.own y (.tail _ (.tail _ (.tail _ hy)))).1
                refine ⟨h, ⟨some ⟨gw, 0, none⟩, n, n⟩, 0, rfl, HL.below, .inl ⟨rfl, ?_, xs, ?_, HXL.out, rfl, Nat.le_refl _, fun ad e => by cases e; exact hnew _ (.head _), hW.out HL (fun y hy => by simp [hy]) (fun y hy => hnew y (by simp [hy]))⟩⟩
                · rw [← HQ2.out]
                  unfold rdM; rw [if_neg (by have h1 := HKL.out; have h2 := HBL.out; omega), HKL.out, HPL.out]
                · exact Rd.of_blk0 (es := []) (by rw [List.append_nil]; exact HL.blk (.tail _ (.tail _ (.tail _ (.head _)))))
        · have HPL := hZ hpl
          clear hpl; go_upto_region 10 with fail; refine Xbx ?_; refine X2h ?_; refine no_implicit_lambda% (X2f ?_); refine X2b ?_; go_upto_region 11 with fail; refine Xit ?_; refine Xes ?_; clear HL; intro w HL; go_wp2_with fail; refine Xf ?_; refine Xjd ?_; refine ⟨D32.z, Sv.nil, 11, rfl, HL.below, .inr ⟨rfl, ?_⟩⟩; rw [← HQ2.out]; unfold rdM; rw [if_neg (by have h1 := HKL.out; have h2 := HBL.out; omega)]; rw [HKL.out, HPL.out]
end
def MtO (N : Nat) (w0 : World) (q : Option D32) (e : Ending) (w' : World) : Prop := ∃ (h : D32) (er : Int), e = .returned (.tuple #[h.a, .int .i64 er]) ∧ Below N w0 w' ∧ ((er = 0 ∧ q = some h) ∨ ((er == 0) = false ∧ q = none))
def MgO (N : Nat) (w0 : World) (q : Option D32) (e : Ending) (w' : World) : Prop := ∃ (x : Prv) (er : Int), e = .returned (.tuple #[.agg x.cells.toArray, .int .i64 er]) ∧ Below N w0 w' ∧ ((er = 0 ∧ ∃ ds, Sds w' x.sides ds ∧ ∀ ad, x.sides.A = some ad → N ≤ ad.block) ∨ ((er == 0) = false ∧ q = none))
section
variable {w w' : World}
theorem xrk (A : Option Addr) (n c : Nat) (ks : List D32) (ps : Sv) (bs : List Brv) (w : World) (hK : KyS w A n c ks) (hB : BrS w ps bs) (hnn : n ≤ 140737488351232) : Calls Tryz.prog 10 #[.slice A n c, mval ps] w (MtO w.heap.size w (rdQ ks bs)) := by
  have HKS := hZ hK; have HBS := hZ hB; clear hK hB; have HL := Loc.start w; obtain ⟨w0, rfl⟩ := eW w; go_enter Tryz.func10, Tryz.ntmps10; go_upto_region 0 with fail; refine X35 ?_; clear HL; intro g3 w HL; refine X5 ?_; refine xah zr23 rfl rfl HL ?_; clear HL; intro g4 w HL; refine X1c ?_; go_upto_region 1 with fail; refine X14 ?_; refine Xjf ?_; refine X57 ?_; intro K hK; refine xad cf57 rfl _ rfl ?_; refine X1z ?_; refine Xjg ?_; rintro e w ⟨h, ways, er, rfl, hb, hx⟩; replace HL := HL.next hb; clear hb; refine X7b ?_; clear hK K; refine X92 ?_; clear HL; intro g6 w HL; refine Xiy ?_; clear HL; intro w HL; go_upto_region 2 with fail; refine X99 ?_; refine X17 ?_; refine X55 ?_; refine X4k ?_; clear HL; intro w HL; go_wp2_with fail; refine Xf ?_; refine X9b ?_; refine ⟨h, er, rfl, HL.below, ?_⟩; rcases hx with ⟨h1, h2, _⟩ | ⟨h1, h2⟩
  · exact .inl ⟨h1, h2⟩
  · exact .inr ⟨h1, h2⟩
theorem xno (A : Option Addr) (n c : Nat) (ks : List D32) (ps : Sv) (bs : List Brv) (i : Nat) (hi : i < n) (w : World) (hK : KyS w A n c ks) (hB : BrS w ps bs) (hnn : n ≤ 140737488351232) : Calls Tryz.prog 11 #[.slice A n c, mval ps, .int .i64 (i : Int)] w (MgO w.heap.size w (rdQ ks bs)) := by
  have HKS := hZ hK; have HBS := hZ hB; clear hK hB; have HL := Loc.start w; obtain ⟨w0, rfl⟩ := eW w; have k4 : decide ((i : Int) < (0 : Int)) = false := by simp
  have k44 : decide ((n : Int) ≤ (i : Int)) = false := by simp; omega
  go_enter Tryz.func11, Tryz.ntmps11; go_upto_region 0 with fail; refine Xcq ?_; clear HL; intro g4 w HL; refine xah zr34 rfl rfl HL ?_; clear HL; intro g6 w HL; refine X1c ?_; go_upto_region 1 with fail; refine X14 ?_; refine Xjf ?_; refine X57 ?_; intro K hK; refine xad cf57 rfl _ rfl ?_; refine X1z ?_; refine Xjg ?_; rintro e w ⟨h, ways, er, rfl, hb, hx⟩; refine Xbn ?_; intro H1 hfr; have hsz := HL.fr.size; replace HL := HL.after hb; clear hb; obtain ⟨w1, rfl⟩ := eW w; refine Xap ?_; intro HBK; generalize Rest w1 _ = D1 at HL HBK hfr; clear H1; refine X7b ?_; clear hK K; refine xah zr23 rfl rfl HL ?_; clear HL; intro g8 w HL; refine Xiy ?_; clear HL; intro w HL; rcases hx with ⟨rfl, hq, xs, hrd, hxl, hwn, hwc, hwf, hall⟩ | ⟨her, hq⟩
  · have hix : i < xs.length := by omega
    obtain ⟨ds, hsd, hsf⟩ := hall xs[i] (List.getElem_mem _); obtain ⟨ad, hA, hcc⟩ := hrd (by rw [xbx Prv.len]; omega); have h2 := hrd.cut (i * 130) 130; have h3 := xda (f := Prv.cells) Prv.len xs [] i hix; rw [List.append_nil] at h3; rw [h3, hA] at h2; generalize xs[i] = x at hsd hsf h2; have HX := hZ h2; have HSV : Hid (ways.v = .slice (some ad) n ways.c) := hZ (by unfold Sv.v; rw [hA, hwn]); have hdw := hwf ad hA; clear h2 h3 hA hcc hall hrd hwn; go_upto_region 2 with fail; refine X94 ?_; refine X1c ?_; go_upto_region 4 with fail; refine X14 ?_; refine Xj3 ?_; refine X28 ?_; refine Xjh ?_; refine X5 ?_; refine xab rfl _ (xc3 _ _ rfl _ _ rfl rfl k44) ?_; refine X1v ?_; go_upto_region 6 with fail; refine X1b ?_; refine xaa rfl _ (xaz xoj (.tmp 33) _ rfl ad n ways.c i .i64 HSV.out rfl hi) ?_; refine X5 ?_
    refine xaa rfl _ (xay ag34 _ rfl _ x.cells rfl (HX.out.keepN (w0 := w0) HL hdw hfr) (by omega) (Prv.len _)) ?_; refine X5 ?_; refine Xau ?_; clear HL; intro w HL; go_wp2_with fail; refine Xf ?_; refine Xji ?_; exact ⟨x, 0, rfl, HBK _ _ HL, .inl ⟨rfl, ds, hsd.keep HL (fun ad e h2 => hfr _ (hsf ad e) h2), fun ad e => Nat.le_trans hsz (hsf ad e)⟩⟩
  · skip
    go_upto_region 2 with fail; refine X14 ?_; refine Xa3 ?_; refine X1c ?_; go_upto_region 3 with fail; refine Xas ?_; refine X17 ?_; refine Xau ?_; clear HL; intro w HL; go_wp2_with fail; refine Xf ?_; refine Xji ?_; exact ⟨Prv.z, er, rfl, HBK _ _ HL, .inr ⟨her, hq⟩⟩
end
structure Srd where
  fr : D32
  til : D32
  rest : Sv
  emp : D32
  keys : Sv
  digs : Sv
  key : D32
  sides : Sv
  kind : Nat
  wk : D32
  wv : D32
  wl : D32
  wr : D32
def Srd.cells (x : Srd) : List Value := x.fr.c ++ (x.til.c ++ ([x.rest.v] ++ (x.emp.c ++ ([x.keys.v] ++ ([x.digs.v] ++ (x.key.c ++ ([x.sides.v] ++ ([Value.int .u8 (x.kind : Int)] ++ (x.wk.c ++ (x.wv.c ++ (x.wl.c ++ (x.wr.c ++ []))))))))))))
theorem Srd.len (x : Srd) : x.cells.length = 261 := by
  simp only [Srd.cells, qp, D32.cl, qr, qs]
theorem Srd.g_rest (x : Srd) : x.cells[64]? = some (x.rest.v) := by unfold Srd.cells; exact Zg
theorem Srd.s_rest (x : Srd) (y : Sv) : x.cells.set 64 (y.v) = ({x with rest := y} : Srd).cells := by unfold Srd.cells; exact Zs
theorem Srd.g_emp (x : Srd) : (x.cells.drop 65).take 32 = x.emp.c := by unfold Srd.cells; exact Zd
theorem Srd.g_keys (x : Srd) : x.cells[97]? = some (x.keys.v) := by unfold Srd.cells; exact Zg
theorem Srd.s_keys (x : Srd) (y : Sv) : x.cells.set 97 (y.v) = ({x with keys := y} : Srd).cells := by unfold Srd.cells; exact Zs
theorem Srd.g_digs (x : Srd) : x.cells[98]? = some (x.digs.v) := by unfold Srd.cells; exact Zg
theorem Srd.s_digs (x : Srd) (y : Sv) : x.cells.set 98 (y.v) = ({x with digs := y} : Srd).cells := by unfold Srd.cells; exact Zs
theorem Srd.g_key (x : Srd) : (x.cells.drop 99).take 32 = x.key.c := by unfold Srd.cells; exact Zd
theorem Srd.g_sides (x : Srd) : x.cells[131]? = some (x.sides.v) := by unfold Srd.cells; exact Zg
theorem Srd.s_sides (x : Srd) (y : Sv) : x.cells.set 131 (y.v) = ({x with sides := y} : Srd).cells := by unfold Srd.cells; exact Zs
theorem xus {α : Type} (a b c m : List α) (n : Nat) (hn : a.length = n) (h : m.length = b.length) : splice (a ++ (b ++ c)) n m = a ++ (m ++ c) := by
  subst hn; exact xa5 a b c m h
theorem get_at {α : Type} (a b c : List α) (k n : Nat) (hk : a.length = k) (h : b.length = n) : ((a ++ (b ++ c)).drop k).take n = b := by
  subst hk; exact xja a b c n h
def Srd.str (x : Srd) : Str := ⟨x.fr, x.til⟩
theorem Srd.g_str (x : Srd) : (x.cells.drop 0).take 64 = x.str.cells := by
  have e : x.cells = [] ++ (x.str.cells ++ (x.cells.drop 64)) := by
    have h1 : x.str.cells = x.fr.c ++ (x.til.c ++ []) := rfl; rw [List.nil_append, h1]
    have h2 : x.cells = (x.fr.c ++ x.til.c) ++ x.cells.drop 64 := by
      have h3 : (x.fr.c ++ x.til.c).length = 64 := by simp [D32.cl]
      have h4 : x.cells = (x.fr.c ++ x.til.c) ++ ([x.rest.v] ++ (x.emp.c ++ ([x.keys.v] ++ ([x.digs.v] ++ (x.key.c ++ ([x.sides.v] ++ ([Value.int .u8 (x.kind : Int)] ++ (x.wk.c ++ (x.wv.c ++ (x.wl.c ++ (x.wr.c ++ []))))))))))) := by simp only [Srd.cells, qo, qn, qu, qm, qt]
      rw [h4, ← h3, List.drop_left]
    rw [List.append_nil]; exact h2
  have h := get_at [] x.str.cells (x.cells.drop 64) 0 64 rfl (Str.len _); rwa [← e] at h
def Srd.nod (x : Srd) : Nod := ⟨x.kind, x.wk, x.wv, x.wl, x.wr⟩
def Srd.setN (x : Srd) (n : Nod) : Srd := { x with kind := n.kind, wk := n.key, wv := n.val, wl := n.left, wr := n.right }
def Srd.way (x : Srd) : Prv := ⟨x.sides, x.kind, x.wk, x.wv, x.wl, x.wr⟩
theorem Srd.split (x : Srd) : x.cells = (x.fr.c ++ (x.til.c ++ ([x.rest.v] ++ (x.emp.c ++ ([x.keys.v] ++ ([x.digs.v] ++ (x.key.c ++ [x.sides.v]))))))) ++ (x.nod.cells ++ []) := by simp only [Srd.cells, Nod.cells, Srd.nod, qo, qn, qu, qm, qt]
theorem Srd.s_nod (x : Srd) (n : Nod) : splice x.cells 132 n.cells = (x.setN n).cells := by
  have e := x.split; have h := xus (x.fr.c ++ (x.til.c ++ ([x.rest.v] ++ (x.emp.c ++ ([x.keys.v] ++ ([x.digs.v] ++ (x.key.c ++ [x.sides.v]))))))) x.nod.cells [] n.cells 132 (by simp only [qp, D32.cl, qr, qs]) (by rw [Nod.len, Nod.len]); rw [← e] at h; rw [h]; simp only [Srd.cells, Nod.cells, Srd.setN, qo, qn, qu, qm, qt]
theorem Srd.split2 (x : Srd) : x.cells = (x.fr.c ++ (x.til.c ++ ([x.rest.v] ++ (x.emp.c ++ ([x.keys.v] ++ ([x.digs.v] ++ x.key.c)))))) ++ (x.way.cells ++ []) := by simp only [Srd.cells, Prv.cells, Srd.way, qo, qn, qu, qm, qt]
theorem Srd.g_way (x : Srd) : (x.cells.drop 131).take 130 = x.way.cells := by
  have h := get_at (x.fr.c ++ (x.til.c ++ ([x.rest.v] ++ (x.emp.c ++ ([x.keys.v] ++ ([x.digs.v] ++ x.key.c)))))) x.way.cells [] 131 130 (by simp only [qp, D32.cl, qr, qs]) (Prv.len _); rwa [← x.split2] at h
theorem Srd.built (s : Str) (a : Sv) (e k : D32) : (s.cells ++ ([a.v] ++ (e.c ++ ([Value.slice none 0 0] ++ ([Value.slice none 0 0] ++ (k.c ++ (Prv.z.cells))))))) = (⟨s.fr, s.til, a, e, Sv.nil, Sv.nil, k, Sv.nil, 0, D32.z, D32.z, D32.z, D32.z⟩ : Srd).cells := by
  have h1 : s.cells = s.fr.c ++ (s.til.c ++ []) := rfl; have h2 : Prv.z.cells = [Sv.nil.v] ++ ([Value.int .u8 ((0 : Nat) : Int)] ++ (D32.z.c ++ (D32.z.c ++ (D32.z.c ++ (D32.z.c ++ []))))) := rfl; have h3 : Value.slice none 0 0 = Sv.nil.v := rfl; rw [h1, h2, h3]; simp only [Srd.cells, qo, qn, qu, qm, qt]
structure LcC (W0 : World) (D : Nat → Prop) (L : List (Nat × Nat × List Value)) (g k : Nat) (v : Value) (W : World) : Prop where
  loc : Loc W0 D L W
  cell : W.cell? ⟨g, k, none⟩ = some v
theorem LcC.drew {W0 : World} {D : Nat → Prop} {L : List (Nat × Nat × List Value)} {g k : Nat} {v : Value} {W : World} (h : LcC W0 D L g k v W) : LcC W0 D L g k v W.drew := ⟨h.loc.drew, h.cell⟩
theorem xso (a b : Nat) : decide ((0 : Int) ≤ cmpZ a b) = decide (b ≤ a) := by
  rw [decide_eq_decide]; unfold cmpZ
  split <;> (try split) <;> omega
theorem xnp (a b : Nat) : decide (cmpZ a b ≤ (0 : Int)) = decide (a ≤ b) := by
  rw [decide_eq_decide]; unfold cmpZ
  split <;> (try split) <;> omega
section
variable {w w' : World}
theorem xi0 (s : Str) (top : D32) (d : Nat) (hd : d ≤ 256) (w : World) : Calls Tryz.prog 171 #[.agg s.cells.toArray, top.a, .int .i64 (d : Int)] w fun e w' => e = .returned (.bool (tchB s.fr.l s.til.l top.l d)) ∧ Below w.heap.size w w' := by
  obtain ⟨r, hr⟩ : ∃ r, tchB s.fr.l s.til.l top.l d = r := ⟨_, rfl⟩; rw [hr]; have hr2 : (decide (nOf s.fr.l ≤ nOf (xgm top (d : Int) true).l) && decide (nOf (xgm top (d : Int) false).l ≤ nOf s.til.l)) = r := hr; clear hr; have HL := Loc.start w; obtain ⟨w0, rfl⟩ := eW w; have C1 := xso (nOf (xgm top (d : Int) true).l) (nOf s.fr.l); have C2 := xnp (nOf (xgm top (d : Int) false).l) (nOf s.til.l)
  cases h1 : decide (nOf s.fr.l ≤ nOf (xgm top (d : Int) true).l) with
  | true =>
    rw [h1] at hr2 C1; rw [Bool.true_and] at hr2; rw [hr2] at C2; clear h1 hr2; go_enter Tryz.func171, Tryz.ntmps171; go_upto_region 0 with fail; refine X35 ?_; clear HL; intro g3 w HL; refine X5 ?_; refine X5r ?_; clear HL; intro g4 w HL; refine X1c ?_; go_upto_region 1 with fail; refine X6j ?_; refine X4a ?_; intro K hK; refine xad cf219 rfl _ rfl ?_; refine X1z ?_; (with_reducible refine (xm8 _ top (d : Int) (by omega)).mono ?_); refine X4i ?_; clear hK K; intro w HL; refine Xjj ?_; clear HL; intro g7 w HL; generalize hf1 : xit (d : Int) = e1; clear hf1; go_upto_region 2 with fail; refine Xv ?_; refine Xc3 ?_; intro K hK; refine xad cf220 rfl _ rfl ?_; refine X1z ?_; (with_reducible refine (last_d _ top (d : Int) (by omega)).mono ?_); refine X4i ?_; clear hK K; intro w HL; refine Xjk ?_; clear HL; intro g9 w HL; go_upto_region 3 with fail; refine X6j ?_; refine X5 ?_
    refine Xjl ?_; refine X5 ?_; refine Xjm ?_; refine X57 ?_; intro K hK; refine Xjo ?_; refine X5x ?_; clear hK K; intro w HL; refine Xjp ?_; refine X17 ?_; refine Xjq ?_; refine X5 ?_; refine xab rfl _ (xaf xrz _ rfl _ rfl) ?_; refine X5 ?_; refine xab rfl _ (xau ag24 HL _ rfl _ _ rfl _ _ _ (.tail _ (.tail _ (.tail _ (.head _)))) (Str.g_til _) (D32.cl _)) ?_; refine X5p ?_; intro K hK; refine Xjn ?_; (with_reducible refine (xcw _ (xgm top (d : Int) false) s.til).mono ?_); refine X5x ?_; clear hK K; intro w HL; refine xab rfl _ (xd2 _ _ rfl _ _ rfl rfl C2) ?_; refine X1v ?_; go_wp2_with fail; go_ret; exact ⟨rfl, HL.below⟩
  | false =>
    rw [h1] at hr2 C1; rw [Bool.false_and] at hr2; subst hr2; clear h1; go_enter Tryz.func171, Tryz.ntmps171; go_upto_region 0 with fail; refine X35 ?_; clear HL; intro g3 w HL; refine X5 ?_; refine X5r ?_; clear HL; intro g4 w HL; refine X1c ?_; go_upto_region 1 with fail; refine X6j ?_; refine X4a ?_; intro K hK; refine xad cf219 rfl _ rfl ?_; refine X1z ?_; (with_reducible refine (xm8 _ top (d : Int) (by omega)).mono ?_); refine X4i ?_; clear hK K; intro w HL; refine Xjj ?_; clear HL; intro g7 w HL; generalize hf1 : xit (d : Int) = e1; clear hf1; go_upto_region 2 with fail; refine Xv ?_; refine Xc3 ?_; intro K hK; refine xad cf220 rfl _ rfl ?_; refine X1z ?_; (with_reducible refine (last_d _ top (d : Int) (by omega)).mono ?_); refine X4i ?_; clear hK K; intro w HL; refine Xjk ?_; clear HL; intro g9 w HL; go_upto_region 3 with fail; refine X6j ?_; refine X5 ?_; refine Xjl ?_
    refine X5 ?_; refine Xjm ?_; refine X57 ?_; intro K hK; refine Xjo ?_; refine X5x ?_; clear hK K; intro w HL; refine Xjp ?_; refine X2h ?_; refine no_implicit_lambda% (X2e ?_); refine X1u ?_; go_wp2_with fail; go_ret; exact ⟨rfl, HL.below⟩
theorem xsp (s : Str) (key : D32) (w : World) : Calls Tryz.prog 63 #[.agg s.cells.toArray, key.a] w fun e w' => e = .returned (.bool (inB s.fr.l s.til.l key.l)) ∧ Below w.heap.size w w' := by
  obtain ⟨r, hr⟩ : ∃ r, inB s.fr.l s.til.l key.l = r := ⟨_, rfl⟩; rw [hr]; have hr2 : (decide (nOf s.fr.l ≤ nOf key.l) && decide (nOf key.l ≤ nOf s.til.l)) = r := hr; clear hr; have HL := Loc.start w; obtain ⟨w0, rfl⟩ := eW w; have C1 := xso (nOf key.l) (nOf s.fr.l); have C2 := xnp (nOf key.l) (nOf s.til.l)
  cases h1 : decide (nOf s.fr.l ≤ nOf key.l) with
  | true =>
    rw [h1] at hr2 C1; rw [Bool.true_and] at hr2; rw [hr2] at C2; clear h1 hr2; go_enter Tryz.func63, Tryz.ntmps63; go_upto_region 0 with fail; refine X90 ?_; clear HL; intro g2 w HL; refine X5 ?_; refine X34 ?_; clear HL; intro g3 w HL; refine X1c ?_; go_upto_region 1 with fail; refine X6j ?_; refine X5 ?_; refine Xjl ?_; refine X5 ?_; refine Xjr ?_; refine X57 ?_; intro K hK; refine Xjn ?_; (with_reducible refine (xcw _ key s.fr).mono ?_); refine X5x ?_; clear hK K; intro w HL; refine Xjp ?_; refine X17 ?_; refine xab rfl _ (xan ag24 HL _ rfl _ rfl _ _ (.head _) (D32.cl _)) ?_; refine X5 ?_; refine xab rfl _ (xaf xrz _ rfl _ rfl) ?_; refine X5 ?_; refine xab rfl _ (xau ag24 HL _ rfl _ _ rfl _ _ _ (.tail _ (.head _)) (Str.g_til _) (D32.cl _)) ?_; refine X5p ?_; intro K hK; refine Xjn ?_
    (with_reducible refine (xcw _ key s.til).mono ?_); refine X5x ?_; clear hK K; intro w HL; refine xab rfl _ (xd2 _ _ rfl _ _ rfl rfl C2) ?_; refine X1v ?_; go_wp2_with fail; go_ret; exact ⟨rfl, HL.below⟩
  | false =>
    rw [h1] at hr2 C1; rw [Bool.false_and] at hr2; subst hr2; clear h1; go_enter Tryz.func63, Tryz.ntmps63; go_upto_region 0 with fail; refine X90 ?_; clear HL; intro g2 w HL; refine X5 ?_; refine X34 ?_; clear HL; intro g3 w HL; refine X1c ?_; go_upto_region 1 with fail; refine X6j ?_; refine X5 ?_; refine Xjl ?_; refine X5 ?_; refine Xjr ?_; refine X57 ?_; intro K hK; refine Xjn ?_; (with_reducible refine (xcw _ key s.fr).mono ?_); refine X5x ?_; clear hK K; intro w HL; refine Xjp ?_; refine X2h ?_; refine no_implicit_lambda% (X2e ?_); refine X1u ?_; go_wp2_with fail; go_ret; exact ⟨rfl, HL.below⟩
theorem xp0 (top : D32) (d : Nat) (hd : d ≤ 256) (w : World) : Calls Tryz.prog 173 #[top.a, .int .i64 (d : Int)] w fun e w' => e = .returned (xdm top (d : Int)).a ∧ Below w.heap.size w w' := by
  have HL := Loc.start w; obtain ⟨w0, rfl⟩ := eW w; go_enter Tryz.func173, Tryz.ntmps173; go_upto_region 0 with fail; refine X90 ?_; clear HL; intro g2 w HL; refine X5 ?_; refine xah zr24 rfl rfl HL ?_; clear HL; intro g4 w HL; refine X22 ?_; go_upto_region 1 with fail; refine Xv ?_; refine Xc3 ?_; intro K hK; refine xad cf168 rfl _ rfl ?_; refine X1z ?_; (with_reducible refine (flip_d _ top (d : Int) (by omega)).mono ?_); refine X4i ?_; clear hK K; intro w HL; refine xah zr24 rfl rfl HL ?_; clear HL; intro g5 w HL; refine Xiv ?_; clear HL; intro w HL; go_upto_region 2 with fail; refine X6j ?_; refine X51 ?_; refine X3j ?_; clear HL; intro w HL; go_wp2_with fail; refine Xf ?_; refine X52 ?_; exact ⟨rfl, HL.below⟩
end
structure SpD where
  dig : D32
  rest : List Brv
  ents : List (D32 × D32)
  sides : List D32
  fin : Option (D32 × D32)
def plS (fr til key : D32) : Nat → List Brv → D32 → Nat → Option SpD
  | _, [], _, _ => none
  | n, b :: rest, top, d =>
    if xa9 b = false then none
    else if b.kind = 0 then some ⟨tagE, rest, [], [], none⟩
    else if b.kind = 3 then (if tchB fr.l til.l top.l d = true then none else some ⟨b.dig, rest, [], [], none⟩)
    else if tchB fr.l til.l top.l d = false then none
    else if b.kind = 1 then
      (if xa1 b.key.l top.l d = true then some ⟨tagL b.key b.val, rest, if inB fr.l til.l b.key.l = true then [(b.key, b.val)] else [], [], if xa1 key.l top.l d = true then some (b.key, b.val) else none⟩ else none)
    else match n with
      | 0 => none
      | n + 1 => match plS fr til key n rest top (d + 1) with
        | none => none
        | some a => match plS fr til key n a.rest (xdm top d) (d + 1) with
          | none => none
          | some c => some ⟨tagI a.dig c.dig, c.rest, a.ents ++ c.ents, a.sides ++ c.sides ++ (if xa1 key.l top.l d = true then [if tb key.l d = true then a.dig else c.dig] else []), c.fin.or a.fin⟩
theorem xem (fr til key : D32) (N : Nat) (b : Brv) (bs : List Brv) (top : D32) (d : Nat) :
    (xa9 b = false → plS fr til key N (b :: bs) top d = none) ∧
    (xa9 b = true → b.kind = 0 → plS fr til key N (b :: bs) top d = some ⟨tagE, bs, [], [], none⟩) ∧
    (xa9 b = true → b.kind = 3 → plS fr til key N (b :: bs) top d = if tchB fr.l til.l top.l d = true then none else some ⟨b.dig, bs, [], [], none⟩) ∧
    (xa9 b = true → b.kind = 1 ∨ b.kind = 2 → tchB fr.l til.l top.l d = false → plS fr til key N (b :: bs) top d = none) ∧
    (xa9 b = true → b.kind = 1 → tchB fr.l til.l top.l d = true → plS fr til key N (b :: bs) top d = if xa1 b.key.l top.l d = true then some ⟨tagL b.key b.val, bs, if inB fr.l til.l b.key.l = true then [(b.key, b.val)] else [], [], if xa1 key.l top.l d = true then some (b.key, b.val) else none⟩ else none) ∧
    (xa9 b = true → b.kind = 2 → N = 0 → plS fr til key N (b :: bs) top d = none) := by
  refine ⟨fun h => ?_, fun h k => ?_, fun h k => ?_, fun h k k2 => ?_, fun h k k2 => ?_, fun h k k2 => ?_⟩ <;> unfold plS
  · rw [if_pos h]
  · rw [if_neg (by rw [h]; decide), if_pos k]
  · rw [if_neg (by rw [h]; decide), if_neg (by omega), if_pos k]
  · rw [if_neg (by rw [h]; decide), if_neg (by omega), if_neg (by omega), if_pos k2]
  · rw [if_neg (by rw [h]; decide), if_neg (by omega), if_neg (by omega), if_neg (by rw [k2]; decide), if_pos k]
  · subst k2
    rw [if_neg (by rw [h]; decide), if_neg (by omega), if_neg (by omega)]
    split
    · rfl
    · rw [if_neg (by omega)]
theorem xf7 (fr til key : D32) (N : Nat) (b : Brv) (bs : List Brv) (top : D32) (d : Nat) (hc : xa9 b = true) (hk : b.kind = 2) (ht : tchB fr.l til.l top.l d = true) :
    (plS fr til key N bs top (d + 1) = none → plS fr til key (N + 1) (b :: bs) top d = none) ∧
    (∀ a, plS fr til key N bs top (d + 1) = some a → plS fr til key N a.rest (xdm top d) (d + 1) = none → plS fr til key (N + 1) (b :: bs) top d = none) ∧
    (∀ a c, plS fr til key N bs top (d + 1) = some a → plS fr til key N a.rest (xdm top d) (d + 1) = some c → plS fr til key (N + 1) (b :: bs) top d = some ⟨tagI a.dig c.dig, c.rest, a.ents ++ c.ents, a.sides ++ c.sides ++ (if xa1 key.l top.l d = true then [if tb key.l d = true then a.dig else c.dig] else []), c.fin.or a.fin⟩) := by
  have e : plS fr til key (N + 1) (b :: bs) top d = match plS fr til key N bs top (d + 1) with
        | none => none
        | some a => match plS fr til key N a.rest (xdm top d) (d + 1) with
          | none => none
          | some c => some ⟨tagI a.dig c.dig, c.rest, a.ents ++ c.ents, a.sides ++ c.sides ++ (if xa1 key.l top.l d = true then [if tb key.l d = true then a.dig else c.dig] else []), c.fin.or a.fin⟩ := by
    rw [plS, if_neg (by rw [hc]; decide), if_neg (by omega), if_neg (by omega), if_neg (by rw [ht]; decide), if_neg (by omega)]
  refine ⟨fun h => ?_, fun a h h2 => ?_, fun a c h h2 => ?_⟩
  · rw [e, h]
  · rw [e, h]; simp only [h2]
  · rw [e, h]; simp only [h2]
end Go.Proofs.YtkjjdgnkelchfaaGreat
