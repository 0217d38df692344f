import Derived.Test.YtkjjdgnkelchfaaGreatPCU11
set_option linter.unusedSimpArgs false
set_option linter.unusedVariables false
set_option maxRecDepth 100000
set_option maxHeartbeats 16000000
namespace Go.Proofs.YtkjjdgnkelchfaaGreat
open Go Go.RowKit
section
variable {D : Nat → Prop} {w w' : World} {gs g : Nat} {σ : Sb} {vs vf : Sv}
theorem xf8 (h : StP D w gs g σ vs vf) (R R' : List Int) (hI : σ.Inv R []) (z : Int) (i : Nat) (hz : z = (i : Int) + 1) (hi : i < σ.slots.length) (hR : ∀ y, R.count y = R'.count y + if y = (i : Int) + 1 then 1 else 0) (hRl : R.length ≤ 1073741824) (hRl2 : R'.length ≤ 1073741824) :
    Calls Tryz.prog 130 #[.pointer (some ⟨gs, 0, none⟩), .int .i64 z] w (Drpd D w gs g σ R') := by
  have HH := hZ h
  have hcnt : σ.slots[i].count ≠ 0 := by
    have h1 := hI.count i hi; have h2 := hR ((i : Int) + 1); simp only [if_true] at h2; omega
  have hhe : 0 < σ.slots[i].nd.held := by
    have h1 := hI.held i hi; have h2 := hR ((i : Int) + 1); simp only [if_true] at h2; omega
  have hhl := hI.held_le i hi; have GL : Hid (Got σ z σ.slots[i].nd σ.slots[i].val true) := hZ (.inl ⟨rfl, i, hz, hi, rfl, rfl, hcnt⟩); have k3 : (σ.slots[i].nd.held == 0) = false := by simp; omega
  have HZ := hZ (And.intro hz (And.intro hcnt hhe)); have hpart := hZ (hI.part R' i hi hR); have h0 : ∀ (i : Nat) (h : i < σ.slots.length), (σ.slots[i].nd.left = 0 ∨ σ.In σ.slots[i].nd.left) ∧ (σ.slots[i].nd.right = 0 ∨ σ.In σ.slots[i].nd.right) := fun i h => ⟨hI.left i h, hI.right i h⟩
  have HS0 := hZ h0; have HCB : Hid (-4611686018427387904 ≤ σ.slots[i].nd.held + -1 ∧ σ.slots[i].nd.held + -1 ≤ 4611686018427387904) := hZ (by omega); have HRL := hZ hRl2; clear h hcnt hhe hhl hI hR hRl hRl2 h0 hz; have HL := Loc.start w; obtain ⟨w0, rfl⟩ := eW w; go_enter Tryz.func130, Tryz.ntmps130; go_upto_region 0 with fail; refine X2z ?_; go_upto_region 1 with fail; refine X3z ?_; intro K hK; refine X5j ?_; rintro e w ⟨rfl, rfl⟩; refine X22 ?_; clear hK K; go_upto_region 3 with fail; refine X4h ?_; intro K hK; refine X6c ?_; refine X4f ?_; clear hK K; intro g6 w HL; go_upto_region 4 with fail; refine X6e ?_; refine X5 ?_; refine X6f ?_; have hP1 := HH.out.below HL.below; have hS1 : Stp D w0 D w := Stp.of_below HL.below; clear HL; go_upto_region 6 with fail; refine X59 ?_; intro K hK; (with_reducible refine (xda hP1 z (-1) i HZ.out.1 hi HZ.out.2.1 HCB.out).mono ?_)
  rintro e w ⟨rfl, hP2, hf2⟩; refine X77 ?_; intro hS2; clear hf2 hS1 hP1; refine X22 ?_; clear hK K; have HP := hZ hP2; have HS := hZ hS2; clear hP2 hS2; have hlt0 : Hid (w0.heap.size ≤ w.heap.size) := hZ HS.out.fr.size; have HL := Loc.start w; obtain ⟨w2, rfl⟩ := eW w; go_upto_region 7 with fail; refine X1j ?_; go_upto_region 8 with fail; refine X11 ?_; refine xcm sl71 el3 rfl _ rfl HL _ rfl rfl ?_; clear HL; intro g36 w HL; (try simp only [Act.eval, qa, qb, qc, qd, qe] at HL); refine X19 ?_
  have HK : Hid (DrL D w0 gs g σ R' (.int .i64 0) (Value.slice (some ⟨g36, 0, none⟩) 1 1) w) := hZ (by
    have hLr := HL.redo (Fr.refl (fun _ => False) w) (fun _ _ f => f); have hg36 := (HL.own _ (.head _)).1; refine ⟨0, ⟨some ⟨g36, 0, none⟩, 1, 1⟩, [z], [(g36, 3, [.int .i64 z])], D, vs, vf, _, rfl, rfl, ?_, Nat.le_refl _, HP.out.below HL.below, HS.out.trans (Stp.of_below HL.below), ?_, Sb.Keeps.held i hi _, rfl, xbr _ _ _, ⟨by simp [xcy], .inr ⟨g36, 1, [], rfl, rfl, Nat.le_refl _, by unfold maxLen; omega, by simp [xcy]⟩⟩, ?_, fun k hk => ?_, fun y hy => ?_⟩
    · simp [Sb.call, Sb.put]
    · rw [HZ.out.1]; exact hpart.out
    · simpa using hLr
    · refine ⟨Nat.lt_of_lt_of_le (HP.out.sb.lt k hk) HL.fr.size, fun y hy e => ?_⟩
      simp only [qm, qn, List.mem_cons, List.not_mem_nil, or_false] at hy; subst hy; exact hg36 (by rw [e]; exact HP.out.sb.lt k hk)
    · simp only [List.mem_cons, List.not_mem_nil, or_false] at hy
      subst hy; have h1 := hlt0.out; have h2 : ¬ g36 < w2.heap.size := hg36; show w0.heap.size ≤ g36
      omega)
  clear HP HS HL hpart; go_wp2_with fail
  go_loopw [8, 9] (fun a b wr => DrL D w0 gs g σ R' a b wr) (fun a b _ => 3 * (σ.used - (intOf a).toNat) + xk7 b)
  case atStart => exact HK.out
  case round => as_aux_lemma =>
    clear HK; obtain ⟨f, sv, T, G, D1, vs1, vf1, σ1, rfl, rfl, hu, hTl, hP, hS, hI, hK0, hrm, hsl, hG, HL, hDr, hGn⟩ := hrel; obtain ⟨w, rfl⟩ := eW wr; obtain ⟨w1, rfl⟩ := eW w; have HP := hZ hP; have HS := hZ hS; have HIN := hZ hI; have HKE := hZ hK0; have HD := hZ hDr; have HGN := hZ hGn; have HUS := hZ hu; have HTL := hZ hTl; clear hP hS hI hK0 hDr hGn hu hTl; have HSL : Hid (sv.n = T.length) := hZ hG.len; rcases List.eq_nil_or_concat T with rfl | ⟨T0, z1, hT⟩
    · have k2 : decide ((([] : List Int).length : Int) > 0) = false := by simp
      go_upto_region 9 with fail; refine X11 ?_; refine xaa rfl _ (xav Tryz.underlying71 _ rfl sv ([] : List Int).length rfl HSL.out) ?_; refine X5 ?_; refine xaa rfl _ (xch (b := false) _ _ rfl _ _ rfl rfl k2) ?_; refine X21 ?_; go_upto_region 22 with fail; refine X3r ?_; go_wp2_with fail; go_ret2; exact ⟨_, D1, vs1, vf1, σ1, rfl, HP.out, HS.out, HIN.out, HKE.out, by have := HUS.out; omega, hrm, hsl⟩
    · rw [List.concat_eq_append] at hT
      subst hT; obtain ⟨gT, tl, cap, rfl, rfl, hcap⟩ := hG.some (by simp); have hTn : (T0 ++ [z1]).length = T0.length + 1 := by simp
      obtain ⟨m, hm⟩ : ∃ m, T0.length = m := ⟨_, rfl⟩; rw [hTn, hm] at hG hcap HSL ⊢; have k2 : decide (((m + 1 : Nat) : Int) > 0) = true := by simp
      have HI1 : Hid (((m + 1 : Nat) : Int) - 1 = (m : Int)) := hZ (by omega); obtain ⟨j, hj, hzj⟩ := HIN.out.todo z1 (by simp); have HZJ := hZ hzj; have HG := hZ hG
      have HM : Hid (m ≤ 100000) := hZ (by
        have h3 := HTL.out; have h4 := HUS.out; have h9 := HH.out.sb.ok; have h10 := h9.r2; have h11 := h9.few; have h12 := h9.fit; rw [hTn, hm] at h3
        omega)
      have hct : 1 ≤ (T0 ++ [z1]).count ((j : Int) + 1) := by rw [hzj]; exact List.count_pos_iff.2 (by simp)
      have HCT := hZ hct; have hcj := HIN.out.count j hj
      have HCJ : Hid (σ1.slots[j].count ≠ 0 ∧ 1 ≤ σ1.slots[j].count ∧ σ1.slots[j].count < 1099511627776) := hZ (by
        have h1 := HIN.out.count_le j hj; have h2 := HRL.out; have h3 := HTL.out; have h4 := HUS.out; have h5 := HIN.out.ok; have h6 := h5.few; have h7 := h5.r2; have h8 := h5.fit; have h9 := HH.out.sb.ok; have h10 := h9.r2; have h11 := h9.few; have h12 := h9.fit
        refine ⟨by omega, by omega, by omega⟩)
      have HCZ : Hid ((xcy (T0 ++ [z1]) ++ tl)[m * 1]? = some (.int .i64 z1)) := hZ (by
        rw [Nat.mul_one, xdn, List.append_assoc, List.getElem?_append_right (by rw [xh4]; omega), xh4, hm, Nat.sub_self]; rfl)
      have GT : Hid (Got σ1 z1 σ1.slots[j].nd σ1.slots[j].val true) := hZ (.inl ⟨rfl, j, hzj, hj, rfl, rfl, HCJ.out.1⟩); clear hzj hG hct hcj; go_upto_region 9 with fail; refine X11 ?_; refine X8s ?_; refine X5 ?_; refine xaa rfl _ (xch (b := true) _ _ rfl _ _ rfl rfl k2) ?_; refine X21 ?_; go_upto_region 10 with fail; refine X18 ?_; refine X8s ?_; refine X5 ?_; refine xaa rfl _ (xa7 _ _ rfl _ _ _ rfl rfl HI1.out (by have := HM.out; omega)) ?_; refine X5 ?_; refine xaa rfl _ (xbc sl71 _ _ rfl gT (m + 1) cap m .i64 rfl rfl (by omega)) ?_; refine X5 ?_; refine xaa rfl _ (xah sc3 HL _ rfl _ _ rfl _ _ _ (.head _) HCZ.out) ?_; refine X19 ?_; go_upto_region 11 with fail; refine X18 ?_; refine X8s ?_; refine X5 ?_; refine xaa rfl _ (xa7 _ _ rfl _ _ _ rfl rfl HI1.out (by have := HM.out; omega)) ?_; refine X5 ?_
      refine xaa rfl _ (xaw sl71 _ _ rfl _ (m + 1) cap m .i64 rfl rfl (by omega)) ?_; refine X19 ?_; go_upto_region 12 with fail; refine X4h ?_; intro K hK; (with_reducible refine (xfp HP.out.sw _ _ _ true GT.out).mono ?_); refine X4a ?_; clear hK K; intro w HL; refine xai xfg rfl rfl HL ?_; clear HL; intro g11 w HL; refine X4d ?_; clear HL; intro w HL; have hPw : StP D1 w gs g σ1 vs1 vf1 := HP.out.fr HL.fr (fun k hk n => n (HD.out k hk)); have hSw : Stp D w0 D1 w := HS.out.after HL (by simpa using HGN.out); have HGO := hZ (HD.out _ HP.out.own); have HGC := hZ HP.out.c
      have HG2 : Hid (Gw 3 1 [(gT, 3, xcy (T0 ++ [z1]) ++ tl)] ⟨some ⟨gT, 0, none⟩, m, cap⟩ m (xcy T0)) := hZ (by
        have h1 := HG.out; rw [xdn] at h1; have h2 := h1.short (m := m) (by rw [xh4]; omega) (by omega) (by omega)
        rw [xdn]; exact h2)
      by_cases hc1 : σ1.slots[j].count = 1
      · have hu1 := HIN.out.used_pos j hj (by omega)
        go_upto_region 13 with fail; refine X8t ?_; refine X42 ?_; intro K hK; refine xac cf190 rfl _ rfl ?_; refine X1y ?_; (with_reducible refine (xpi hPw.sb z1 j HZJ.out hj hc1 hu1).mono ?_); rintro e w ⟨D2, vf2, rfl, hsb, hst, hf⟩; have hP3 : StP D2 w gs g (σ1.letGo j) vs1 vf2 := ⟨hPw.blk.fr hf hPw.sbs, hst.old _ hPw.own, hsb⟩; have hS3 := hSw.trans hst
        have hD2 : ∀ k, D2 k → Rest w ((g11, 230, σ1.slots[j].nd.cells) :: ([(gT, 3, xcy (T0 ++ [z1]) ++ tl)] ++ [])) k := fun k hk => ⟨hsb.lt k hk, fun y hy e => by
          have h1 := HL.own y hy; rcases hst.new k hk with h2 | h2
          · exact h1.1 (by rw [e]; exact HD.out k h2)
          · have := h1.2.lt; omega⟩
        refine X8u ?_; intro HL2
        have HQ1 : Hid (∀ y ∈ ((g11, 230, σ1.slots[j].nd.cells) :: ([(gT, 3, xcy (T0 ++ [z1]) ++ tl)] ++ [])), w0.heap.size ≤ y.1) := hZ (fun y hy => by
          rcases List.mem_cons.1 hy with rfl | hy
          · refine Nat.le_of_not_lt fun hlt => (HL.own _ (.head _)).1 ⟨by have := HS.out.fr.size; show g11 < _; omega, fun x hx e => ?_⟩
            have h1 := HGN.out x (by simpa using hx); have hlt : g11 < w0.heap.size := hlt; have e : x.1 = g11 := e; omega
          · exact HGN.out y (by simpa using hy))
        clear HL; have HL := HL2; clear HL2; refine X7d ?_; clear hK K; have HP3 := hZ hP3; have HS3 := hZ hS3; have HD2 := hZ hD2; have HF1 : Hid ((f : Int) + 1 = ((f + 1 : Nat) : Int)) := hZ (by omega); clear hP3 hS3 hD2 hPw hSw hst hf hsb; go_upto_region 14 with fail; refine X2o ?_; go_upto_region 15 with fail; refine X11 ?_; refine xaa rfl _ (xay _ _ rfl _ _ _ rfl rfl HF1.out (by have h4 := HUS.out; have h5 := HIN.out.ok; have h7 := h5.r2; have h9 := HH.out.sb.ok; have h10 := h9.r2; have h11 := h9.few; have h12 := h9.fit; omega)) ?_; refine X19 ?_; obtain ⟨nr, hnr⟩ : ∃ nr, σ1.slots[j].nd.right = nr := ⟨_, rfl⟩; obtain ⟨nl, hnl⟩ : ∃ nl, σ1.slots[j].nd.left = nl := ⟨_, rfl⟩; have HNR := hZ hnr; have HNL := hZ hnl; have HLN : Hid (∀ y ∈ ((g11, 230, σ1.slots[j].nd.cells) :: ([(gT, 3, xcy (T0 ++ [z1]) ++ tl)] ++ [])), w0.heap.size ≤ y.1) := hZ HQ1.out
        have HLT : Hid (w0.heap.size ≤ w.heap.size) := hZ HS3.out.fr.size; obtain ⟨w3, rfl⟩ := eW w; go_upto_region 16 with fail; refine Xs ?_; refine xaa rfl _ (xaf xqp _ rfl _ rfl) ?_; refine X5 ?_; refine xaa rfl _ (xah sc3 HL _ rfl _ _ rfl _ _ _ (.head _) (Nd.g_right _)) ?_; refine X5 ?_; refine xaa rfl _ (xaf xqo _ rfl _ rfl) ?_; refine X5 ?_; refine xaa rfl _ (xah sc3 HL _ rfl _ _ rfl _ _ _ (.head _) (Nd.g_left _)) ?_; refine X5 ?_; refine xaa rfl _ (xsp _ _ rfl nr nl (by rw [← hnr]; rfl) (by rw [← hnl]; rfl)) ?_; refine X1e ?_; clear hnr hnl; go_wp2_with fail; by_cases hr0 : nr ≠ 0
        · have hr0 : nr ≠ 0 := hr0
          by_cases hl0 : nl ≠ 0
          · have kR : (nr == 0) = false := by simpa using hr0
            have kL : (nl == 0) = false := by simpa using hl0
            have HCO : Hid (∀ y, (T0 ++ [nr] ++ [nl]).count y + (if y = (j : Int) + 1 then 1 else 0) = (T0 ++ [z1]).count y + (if y = 0 then 0 else σ1.slots[j].pts y)) := hZ (by
              intro y; have h1 := HZJ.out; have h2 := HNR.out; have h3 := HNL.out; unfold En.pts; rw [h2, h3, h1]; refine X8v ?_; by_cases hy0 : y = 0
              · subst hy0
                simp [hr0, hl0]
                try rw [if_neg (show ¬ (0 : Int) = (j : Int) + 1 by omega), if_neg (show ¬ (j : Int) + 1 = 0 by omega)]
                try omega
              · simp only [hy0, if_false]
                have e1 : ∀ p q : Int, (if p = q then 1 else 0 : Nat) = if q = p then 1 else 0 := fun p q => by by_cases h : p = q <;> simp [h, eq_comm]
                rw [e1 ((j : Int) + 1) y]
                omega)
            refine X63 ?_; rw [rounds_succ]; go_upto_region 17 with fail; refine X64 ?_; go_upto_region 18 with fail; refine Xs ?_; refine X8w ?_; refine X19 ?_; go_upto_region 19 with fail; refine X8x ?_; refine X21 ?_; go_upto_region 20 with fail; refine X18 ?_; refine X8y ?_; clear HL; intro g82 w HL; refine X4z ?_; intro K hK; refine xa9 sl71 el3 _ _ rfl [_, _] (m) ⟨some ⟨gT, 0, none⟩, m, cap⟩ (xcy T0) HG2.out HL rfl ⟨g82, 0, none⟩ 1 1 [.int .i64 nr] rfl (Rd.of_blk0 (es := []) (by rw [List.append_nil]; exact HL.blk (.head _))) rfl (fun u hu => by simp at hu; subst hu; rfl) (by decide) (by have := HM.out; omega) (by have := HM.out; omega) ?_; clear HL; intro tR GR w hGR HL; simp only [qm, qn] at HL; refine X8z ?_; clear hK K; have HGR := hZ hGR; clear hGR; go_upto_region 21 with fail; refine X6j ?_; go_wp2_with fail; rw [rounds_succ]; go_upto_region 17 with fail; refine X64 ?_
            go_upto_region 18 with fail; refine Xs ?_; refine X90 ?_; refine X19 ?_; go_upto_region 19 with fail; refine X91 ?_; refine X21 ?_; go_upto_region 20 with fail; refine X18 ?_; refine X8y ?_; clear HL; intro g82 w HL; refine X4z ?_; intro K hK; refine xa9 sl71 el3 _ _ rfl [_, _, _] (m + 1) tR (xcy T0 ++ [.int .i64 nr]) HGR.out HL rfl ⟨g82, 0, none⟩ 1 1 [.int .i64 nl] rfl (Rd.of_blk0 (es := []) (by rw [List.append_nil]; exact HL.blk (.head _))) rfl (fun u hu => by simp at hu; subst hu; rfl) (by decide) (by have := HM.out; omega) (by have := HM.out; omega) ?_; clear HL; intro tL GL w hGL HL; simp only [qm, qn] at HL; refine X8z ?_; clear hK K; have HGL := hZ hGL; clear hGL; go_upto_region 21 with fail; refine X6j ?_; go_wp2_with fail; rw [rounds_succ]; go_upto_region 17 with fail; refine X64 ?_; go_wp2_with fail
            have HFN : Hid (DrL D w0 gs g σ R' (.int .i64 ((f + 1 : Nat) : Int)) (Sv.v tL) w) := hZ (by
              refine X92 ?_; intro hPw; have hu1 := HIN.out.used_pos j hj (by omega); have hin := HIN.out.go (T0 ++ [nr] ++ [nl]) j hj hc1 HCT.out HCO.out; have hke := HKE.out.go HS0.out HIN.out j hj hc1 HCT.out; have hLd := HL.drop (GL ++ []) (by first | exact sA [_, _, _] _ | simp); refine ⟨f + 1, tL, T0 ++ [nr] ++ [nl], GL, D2, vs1, vf2, σ1.letGo j, rfl, rfl, ?_, ?_, hPw, ?_, hin, hke, hrm, ?_, ?_, hLd.redo (Fr.refl (fun _ => False) w) (fun _ _ f => f), ?_, ?_⟩
              · have h1 := HUS.out
                show f + 1 + (σ1.used - 1) = σ.used; omega
              · have h1 := HTL.out
                simp only [qp, qr, qs] at h1 ⊢; omega
              · exact HS3.out.after HL HLN.out
              · rw [← hsl]; simp [Sb.letGo]
              · have h1 := HGL.out
                have e : (T0 ++ [nr] ++ [nl]).length = m + 1 + 1 := by simp [hm]
                rw [e]; rw [xdn, xdn]; exact h1
              · intro k hk
                refine ⟨hPw.sb.lt k hk, ?_⟩; intro y hy e; have h1 := hLd.own y hy; exact h1.1 (by rw [e]; exact HD2.out k hk)
              · intro y hy
                have h1 := (hLd.own y (by simp [hy])); refine Nat.le_of_not_lt fun hlt => h1.1 ?_
                exact ⟨by have := HLT.out; omega, fun x hx e => by have := HLN.out x hx; omega⟩)
            go_roundw
            case rel => exact HFN.out
            case measure =>
              have q1 := HUS.out; have q2 := hu1; have q3 := HGL.out.len; simp [intOf, Sv.v, xk7]; omega
          · have hl0 : nl = 0 := Decidable.not_not.1 hl0
            have kR : (nr == 0) = false := by simpa using hr0
            have kL : (nl == 0) = true := by simpa using hl0
            have HCO : Hid (∀ y, (T0 ++ [nr]).count y + (if y = (j : Int) + 1 then 1 else 0) = (T0 ++ [z1]).count y + (if y = 0 then 0 else σ1.slots[j].pts y)) := hZ (by
              intro y; have h1 := HZJ.out; have h2 := HNR.out; have h3 := HNL.out; unfold En.pts; rw [h2, h3, h1]; refine X8v ?_; by_cases hy0 : y = 0
              · subst hy0
                simp [hr0]
                try rw [if_neg (show ¬ (0 : Int) = (j : Int) + 1 by omega), if_neg (show ¬ (j : Int) + 1 = 0 by omega)]
                try omega
              · have q2 : ¬ nl = y := fun e => hy0 (by rw [← e, hl0])
                simp only [hy0, if_false, q2]; have e1 : ∀ p q : Int, (if p = q then 1 else 0 : Nat) = if q = p then 1 else 0 := fun p q => by by_cases h : p = q <;> simp [h, eq_comm]
                rw [e1 ((j : Int) + 1) y]
                omega)
            refine X63 ?_; rw [rounds_succ]; go_upto_region 17 with fail; refine X64 ?_; go_upto_region 18 with fail; refine Xs ?_; refine X8w ?_; refine X19 ?_; go_upto_region 19 with fail; refine X8x ?_; refine X21 ?_; go_upto_region 20 with fail; refine X18 ?_; refine X8y ?_; clear HL; intro g82 w HL; refine X4z ?_; intro K hK; refine xa9 sl71 el3 _ _ rfl [_, _] (m) ⟨some ⟨gT, 0, none⟩, m, cap⟩ (xcy T0) HG2.out HL rfl ⟨g82, 0, none⟩ 1 1 [.int .i64 nr] rfl (Rd.of_blk0 (es := []) (by rw [List.append_nil]; exact HL.blk (.head _))) rfl (fun u hu => by simp at hu; subst hu; rfl) (by decide) (by have := HM.out; omega) (by have := HM.out; omega) ?_; clear HL; intro tR GR w hGR HL; simp only [qm, qn] at HL; refine X8z ?_; clear hK K; have HGR := hZ hGR; clear hGR; go_upto_region 21 with fail; refine X6j ?_; go_wp2_with fail; rw [rounds_succ]; go_upto_region 17 with fail; refine X64 ?_
            go_upto_region 18 with fail; refine Xs ?_; refine X90 ?_; refine X19 ?_; go_upto_region 19 with fail; refine X93 ?_; refine X21 ?_; go_upto_region 21 with fail; refine X6j ?_; go_wp2_with fail; rw [rounds_succ]; go_upto_region 17 with fail; refine X64 ?_; go_wp2_with fail
            have HFN : Hid (DrL D w0 gs g σ R' (.int .i64 ((f + 1 : Nat) : Int)) (Sv.v tR) w) := hZ (by
              refine X92 ?_; intro hPw; have hu1 := HIN.out.used_pos j hj (by omega); have hin := HIN.out.go (T0 ++ [nr]) j hj hc1 HCT.out HCO.out; have hke := HKE.out.go HS0.out HIN.out j hj hc1 HCT.out; have hLd := HL.drop (GR ++ []) (by first | exact sA [_, _] _ | simp); refine ⟨f + 1, tR, T0 ++ [nr], GR, D2, vs1, vf2, σ1.letGo j, rfl, rfl, ?_, ?_, hPw, ?_, hin, hke, hrm, ?_, ?_, hLd.redo (Fr.refl (fun _ => False) w) (fun _ _ f => f), ?_, ?_⟩
              · have h1 := HUS.out
                show f + 1 + (σ1.used - 1) = σ.used; omega
              · have h1 := HTL.out
                simp only [qp, qr, qs] at h1 ⊢; omega
              · exact HS3.out.after HL HLN.out
              · rw [← hsl]; simp [Sb.letGo]
              · have h1 := HGR.out
                have e : (T0 ++ [nr]).length = m + 1 := by simp [hm]
                rw [e]; rw [xdn]; exact h1
              · intro k hk
                refine ⟨hPw.sb.lt k hk, ?_⟩; intro y hy e; have h1 := hLd.own y hy; exact h1.1 (by rw [e]; exact HD2.out k hk)
              · intro y hy
                have h1 := (hLd.own y (by simp [hy])); refine Nat.le_of_not_lt fun hlt => h1.1 ?_
                exact ⟨by have := HLT.out; omega, fun x hx e => by have := HLN.out x hx; omega⟩)
            go_roundw
            case rel => exact HFN.out
            case measure =>
              have q1 := HUS.out; have q2 := hu1; have q3 := HGR.out.len; simp [intOf, Sv.v, xk7]; omega
        · have hr0 : nr = 0 := Decidable.not_not.1 hr0
          by_cases hl0 : nl ≠ 0
          · have kR : (nr == 0) = true := by simpa using hr0
            have kL : (nl == 0) = false := by simpa using hl0
            have HCO : Hid (∀ y, (T0 ++ [nl]).count y + (if y = (j : Int) + 1 then 1 else 0) = (T0 ++ [z1]).count y + (if y = 0 then 0 else σ1.slots[j].pts y)) := hZ (by
              intro y; have h1 := HZJ.out; have h2 := HNR.out; have h3 := HNL.out; unfold En.pts; rw [h2, h3, h1]; refine X8v ?_; by_cases hy0 : y = 0
              · subst hy0
                simp [hl0]
                try rw [if_neg (show ¬ (0 : Int) = (j : Int) + 1 by omega), if_neg (show ¬ (j : Int) + 1 = 0 by omega)]
                try omega
              · have q1 : ¬ nr = y := fun e => hy0 (by rw [← e, hr0])
                simp only [hy0, if_false, q1]; have e1 : ∀ p q : Int, (if p = q then 1 else 0 : Nat) = if q = p then 1 else 0 := fun p q => by by_cases h : p = q <;> simp [h, eq_comm]
                rw [e1 ((j : Int) + 1) y]
                omega)
            refine X63 ?_; rw [rounds_succ]; go_upto_region 17 with fail; refine X64 ?_; go_upto_region 18 with fail; refine Xs ?_; refine X8w ?_; refine X19 ?_; go_upto_region 19 with fail; refine X94 ?_; refine X21 ?_; go_upto_region 21 with fail; refine X6j ?_; go_wp2_with fail; rw [rounds_succ]; go_upto_region 17 with fail; refine X64 ?_; go_upto_region 18 with fail; refine Xs ?_; refine X90 ?_; refine X19 ?_; go_upto_region 19 with fail; refine X91 ?_; refine X21 ?_; go_upto_region 20 with fail; refine X18 ?_; refine X8y ?_; clear HL; intro g82 w HL; refine X4z ?_; intro K hK
            refine xa9 sl71 el3 _ _ rfl [_, _] (m) ⟨some ⟨gT, 0, none⟩, m, cap⟩ (xcy T0) HG2.out HL rfl ⟨g82, 0, none⟩ 1 1 [.int .i64 nl] rfl (Rd.of_blk0 (es := []) (by rw [List.append_nil]; exact HL.blk (.head _))) rfl (fun u hu => by simp at hu; subst hu; rfl) (by decide) (by have := HM.out; omega) (by have := HM.out; omega) ?_; clear HL; intro tL GL w hGL HL; simp only [qm, qn] at HL; refine X8z ?_; clear hK K; have HGL := hZ hGL; clear hGL; go_upto_region 21 with fail; refine X6j ?_; go_wp2_with fail; rw [rounds_succ]; go_upto_region 17 with fail; refine X64 ?_; go_wp2_with fail
            have HFN : Hid (DrL D w0 gs g σ R' (.int .i64 ((f + 1 : Nat) : Int)) (Sv.v tL) w) := hZ (by
              refine X92 ?_; intro hPw; have hu1 := HIN.out.used_pos j hj (by omega); have hin := HIN.out.go (T0 ++ [nl]) j hj hc1 HCT.out HCO.out; have hke := HKE.out.go HS0.out HIN.out j hj hc1 HCT.out; have hLd := HL.drop (GL ++ []) (by first | exact sA [_, _] _ | simp); refine ⟨f + 1, tL, T0 ++ [nl], GL, D2, vs1, vf2, σ1.letGo j, rfl, rfl, ?_, ?_, hPw, ?_, hin, hke, hrm, ?_, ?_, hLd.redo (Fr.refl (fun _ => False) w) (fun _ _ f => f), ?_, ?_⟩
              · have h1 := HUS.out
                show f + 1 + (σ1.used - 1) = σ.used; omega
              · have h1 := HTL.out
                simp only [qp, qr, qs] at h1 ⊢; omega
              · exact HS3.out.after HL HLN.out
              · rw [← hsl]; simp [Sb.letGo]
              · have h1 := HGL.out
                have e : (T0 ++ [nl]).length = m + 1 := by simp [hm]
                rw [e]; rw [xdn]; exact h1
              · intro k hk
                refine ⟨hPw.sb.lt k hk, ?_⟩; intro y hy e; have h1 := hLd.own y hy; exact h1.1 (by rw [e]; exact HD2.out k hk)
              · intro y hy
                have h1 := (hLd.own y (by simp [hy])); refine Nat.le_of_not_lt fun hlt => h1.1 ?_
                exact ⟨by have := HLT.out; omega, fun x hx e => by have := HLN.out x hx; omega⟩)
            go_roundw
            case rel => exact HFN.out
            case measure =>
              have q1 := HUS.out; have q2 := hu1; have q3 := HGL.out.len; simp [intOf, Sv.v, xk7]; omega
          · have hl0 : nl = 0 := Decidable.not_not.1 hl0
            have kR : (nr == 0) = true := by simpa using hr0
            have kL : (nl == 0) = true := by simpa using hl0
            have HCO : Hid (∀ y, (T0).count y + (if y = (j : Int) + 1 then 1 else 0) = (T0 ++ [z1]).count y + (if y = 0 then 0 else σ1.slots[j].pts y)) := hZ (by
              intro y; have h1 := HZJ.out; have h2 := HNR.out; have h3 := HNL.out; unfold En.pts; rw [h2, h3, h1]; refine X8v ?_; by_cases hy0 : y = 0
              · subst hy0
                simp []
                try rw [if_neg (show ¬ (0 : Int) = (j : Int) + 1 by omega), if_neg (show ¬ (j : Int) + 1 = 0 by omega)]
                try omega
              · have q1 : ¬ nr = y := fun e => hy0 (by rw [← e, hr0])
                have q2 : ¬ nl = y := fun e => hy0 (by rw [← e, hl0])
                simp only [hy0, if_false, q1, q2]; have e1 : ∀ p q : Int, (if p = q then 1 else 0 : Nat) = if q = p then 1 else 0 := fun p q => by by_cases h : p = q <;> simp [h, eq_comm]
                rw [e1 ((j : Int) + 1) y]
                omega)
            refine X63 ?_; rw [rounds_succ]; go_upto_region 17 with fail; refine X64 ?_; go_upto_region 18 with fail; refine Xs ?_; refine X8w ?_; refine X19 ?_; go_upto_region 19 with fail; refine X94 ?_; refine X21 ?_; go_upto_region 21 with fail; refine X6j ?_; go_wp2_with fail; rw [rounds_succ]; go_upto_region 17 with fail; refine X64 ?_; go_upto_region 18 with fail; refine Xs ?_; refine X90 ?_; refine X19 ?_; go_upto_region 19 with fail; refine X93 ?_; refine X21 ?_; go_upto_region 21 with fail; refine X6j ?_; go_wp2_with fail; rw [rounds_succ]; go_upto_region 17 with fail; refine X64 ?_; go_wp2_with fail
            have HFN : Hid (DrL D w0 gs g σ R' (.int .i64 ((f + 1 : Nat) : Int)) (Sv.v (⟨some ⟨gT, 0, none⟩, m, cap⟩ : Sv)) w3) := hZ (by
              have hPw : StP D2 w3 gs g (σ1.letGo j) vs1 vf2 := HP3.out; have hu1 := HIN.out.used_pos j hj (by omega); have hin := HIN.out.go (T0) j hj hc1 HCT.out HCO.out; have hke := HKE.out.go HS0.out HIN.out j hj hc1 HCT.out; have hLd := HL.drop ([(gT, 3, xcy (T0 ++ [z1]) ++ tl)] ++ []) (by first | exact sA [_] _ | simp); refine ⟨f + 1, (⟨some ⟨gT, 0, none⟩, m, cap⟩ : Sv), T0, [(gT, 3, xcy (T0 ++ [z1]) ++ tl)], D2, vs1, vf2, σ1.letGo j, rfl, rfl, ?_, ?_, hPw, ?_, hin, hke, hrm, ?_, ?_, hLd.redo (Fr.refl (fun _ => False) w3) (fun _ _ f => f), ?_, ?_⟩
              · have h1 := HUS.out
                show f + 1 + (σ1.used - 1) = σ.used; omega
              · have h1 := HTL.out
                simp only [qp, qr, qs] at h1 ⊢; omega
              · exact HS3.out.after HL HLN.out
              · rw [← hsl]; simp [Sb.letGo]
              · have h1 := HG2.out
                have e : (T0).length = m := by simp [hm]
                rw [e]; exact h1
              · intro k hk
                refine ⟨hPw.sb.lt k hk, ?_⟩; intro y hy e; have h1 := hLd.own y hy; exact h1.1 (by rw [e]; exact HD2.out k hk)
              · intro y hy
                have h1 := (hLd.own y (by simp [hy])); refine Nat.le_of_not_lt fun hlt => h1.1 ?_
                exact ⟨by have := HLT.out; omega, fun x hx e => by have := HLN.out x hx; omega⟩)
            go_roundw
            case rel => exact HFN.out
            case measure =>
              have q1 := HUS.out; have q2 := hu1
              skip
              simp [intOf, Sv.v, xk7]; omega
      · have hcg : 1 < σ1.slots[j].count := by have := HCJ.out.2.1; omega
        go_upto_region 13 with fail; refine X8t ?_; refine X42 ?_; intro K hK; refine xac cf190 rfl _ rfl ?_; refine X1y ?_; (with_reducible refine (xhb hPw.sb z1 j HZJ.out hj hcg HCJ.out.2.2).mono ?_); rintro e w ⟨rfl, hsb, hf⟩; have hP3 : StP D1 w gs g _ vs1 vf1 := ⟨hPw.blk.fr hf hPw.sbs, hPw.own, hsb⟩; have hS3 := hSw.trans (Stp.of_fr hf fun k hk => hPw.sb.own k hk); refine X8u ?_; intro HL2
        have HFN : Hid (DrL D w0 gs g σ R' (.int .i64 (f : Int)) (Value.slice (some ⟨gT, 0, none⟩) m cap) w) := hZ (by
          have hin := HIN.out.stay T0 j hj hcg (fun y => by
            rw [← HZJ.out]; refine X8v ?_; by_cases h : z1 = y
            · subst h; simp
            · have h2 : ¬ y = z1 := fun e => h e.symm
              simp [h, h2])
          refine ⟨f, ⟨some ⟨gT, 0, none⟩, m, cap⟩, T0, [(gT, 3, xcy (T0 ++ [z1]) ++ tl)], D1, vs1, vf1, σ1.put j ⟨σ1.slots[j].nd, σ1.slots[j].count - 1, σ1.slots[j].val⟩, rfl, rfl, HUS.out, by have := HTL.out; simp at this; omega, hP3, hS3, hin, HKE.out.put j hj _, hrm, by rw [xbr]; exact hsl, by rw [hm]; exact HG2.out, (HL2.drop _ (sB _ _)).redo (Fr.refl (fun _ => False) w) (fun _ _ f => f), fun k hk => ⟨hsb.lt k hk, fun y hy e => (HL.own y (.tail _ hy)).1 (by rw [e]; exact HD.out k hk)⟩, HGN.out⟩)
        clear HL HL2 hP3 hS3; refine X7d ?_; clear hK K; clear hPw hSw; go_upto_region 14 with fail; refine X2o ?_; go_wp2_with fail; go_roundw
        case rel => exact HFN.out
        case measure => simp [intOf, Sv.v, xk7] <;> omega
end
theorem xn2 {σ : Sb} {i d : Nat} {t : Tre} (hi : i < σ.slots.length) (h : IsT σ ((i : Int) + 1) (d + 1) t) (hb : ∀ k ∈ t.keys, tb k.l d = false) (hne : t.keys ≠ []) : FitN σ.slots[i].nd d 0 := by
  obtain ⟨j, hj, e, _, _, _, hk, hd, hky⟩ := h.nz (by omega); obtain rfl : j = i := by omega
  obtain ⟨k, hk1⟩ := List.exists_mem_of_ne_nil _ hne; refine ⟨by rw [hky k hk1 d (by omega), hb k hk1]; rfl, fun h2 => ?_⟩
  have hin : t.isIn = true := by
    cases hti : t.isIn with
    | true => rfl
    | false => rw [hti] at hk; rw [hk] at h2; cases h2
  rw [hd hin]; omega
theorem xn3 {σ : Sb} {i d : Nat} {t : Tre} (hi : i < σ.slots.length) (h : IsT σ ((i : Int) + 1) (d + 1) t) (hb : ∀ k ∈ t.keys, tb k.l d = true) (hne : t.keys ≠ []) : FitN σ.slots[i].nd d 1 := by
  obtain ⟨j, hj, e, _, _, _, hk, hd, hky⟩ := h.nz (by omega); obtain rfl : j = i := by omega
  obtain ⟨k, hk1⟩ := List.exists_mem_of_ne_nil _ hne; refine ⟨by rw [hky k hk1 d (by omega), hb k hk1]; rfl, fun h2 => ?_⟩
  have hin : t.isIn = true := by
    cases hti : t.isIn with
    | true => rfl
    | false => rw [hti] at hk; rw [hk] at h2; cases h2
  rw [hd hin]; omega
section
variable {D : Nat → Prop} {w w' : World} {gs g : Nat} {σ : Sb} {vs vf : Sv}
theorem xf9 (h : StP D w gs g σ vs vf) (R : List Int) (hI : σ.Inv R []) (z : Int) (d : Nat) (t : Tre) (ht : IsT σ z d t) (hRl : R.length ≤ 536870912) :
    Calls Tryz.prog 224 #[.pointer (some ⟨gs, 0, none⟩), .int .i64 z] w (MadeT D w gs g σ R d t 0) := by
  by_cases hz : z = 0
  · subst hz
    go_enter Tryz.func224, Tryz.ntmps224; go_upto_region 0 with fail; refine X1j ?_; go_upto_region 1 with fail; refine X2o ?_; go_upto_region 3 with fail; refine X7j ?_; go_wp2_with fail; go_ret; exact ⟨0, D, vs, vf, σ, rfl, h, Stp.refl _ _, by simpa using hI, fun i hi hc => ⟨hi, rfl, rfl, hc⟩, ht, rfl, by omega⟩
  · obtain ⟨i, hi, hzi, hc, _⟩ := ht.nz hz
    have hcl := hI.count_le i hi; have hhl := hI.held_le i hi; have hok := hI.ok; have h1 := hok.few; have h2 := hok.r2; have hcp := hI.count i hi
    have HB : Hid (0 < σ.slots[i].count ∧ σ.slots[i].count < 1073741824 ∧ (-4611686018427387904 ≤ σ.slots[i].nd.held ∧ σ.slots[i].nd.held ≤ 4611686018427387900)) := hZ (by
      simp only [qs] at hcl
      refine ⟨by omega, by omega, by omega, by omega⟩)
    have k1 : (z == 0) = false := by simpa using hz
    have HH := hZ h; have HI := hZ (hI.hold i hi hc); have HT := hZ ht; have HZ := hZ hzi; clear hcl hhl hok h1 h2 hcp h hI ht hzi; go_enter Tryz.func224, Tryz.ntmps224; go_upto_region 0 with fail; refine X1j ?_; go_upto_region 1 with fail; refine X11 ?_; refine X7o ?_; refine X21 ?_; go_upto_region 2 with fail; refine X2k ?_; intro K hK; refine xac cf129 rfl _ rfl ?_; refine X1y ?_; (with_reducible refine (xmf HH.out z i HZ.out hi HB.out.1 HB.out.2.1 HB.out.2.2).mono ?_); rintro e w ⟨rfl, hP, hf⟩; refine X22 ?_; clear hK K; go_upto_region 3 with fail; refine X7j ?_; go_wp2_with fail; go_ret; have hS : σ.Stays (σ.hold i hi) := Sb.Stays.hold i hi (by have := HB.out.1; omega); exact ⟨z, D, vs, vf, σ.hold i hi, rfl, hP, Stp.of_fr hf (fun k hk => HH.out.sb.own k hk), by rw [if_neg hz, HZ.out]; exact HI.out.1, hS, HT.out.stay hS, rfl, by show σ.used ≤ _; omega⟩
end
theorem xdv {d : Nat} {t : Tre} (h : t.Ok d) (hk : t.keys = []) : t = .nil := by
  cases t with
  | nil => rfl
  | leaf k v => simp [Tre.keys] at hk
  | inner l r => exact absurd hk (Tre.Ok.ne h rfl)
section
variable {D : Nat → Prop} {w w' : World} {gs g : Nat} {σ : Sb} {vs vf : Sv}
theorem IsT.down {σ : Sb} {z : Int} {d d' : Nat} {t : Tre} (h : IsT σ z d t) (hn : t.isIn = false) : IsT σ z d' t := by
  cases t with
  | nil => exact h
  | leaf k v => exact h
  | inner l r => cases hn
theorem xh5 (h : StP D w gs g σ vs vf) (R R' : List Int) (hI : σ.Inv R []) (d : Nat) (hd : d < 256) (zl zr : Int) (l r : Tre) (hl : IsT σ zl (d + 1) l) (hr : IsT σ zr (d + 1) r) (hol : l.Ok (d + 1)) (hor : r.Ok (d + 1)) (hbl : ∀ k ∈ l.keys, tb k.l d = false) (hbr : ∀ k ∈ r.keys, tb k.l d = true)
    (hall : ∀ k ∈ l.keys ++ r.keys, ∀ k' ∈ l.keys ++ r.keys, ∀ e, e < d → tb k.l e = tb k'.l e) (hR : ∀ z, R.count z = R'.count z + (if z = zl ∧ zl ≠ 0 then 1 else 0) + (if z = zr ∧ zr ≠ 0 then 1 else 0)) (hRl : R.length ≤ 536870912) (hroom : σ.used < σ.room) (hsz : l.size + r.size ≤ 1000000) :
    Calls Tryz.prog 228 #[.pointer (some ⟨gs, 0, none⟩), .int .i64 (d : Int), .int .i64 zl, .int .i64 zr] w (MadeT D w gs g σ R' d (xci l r) 1) := by
  have HH := hZ h; by_cases hzl : zl = 0
  · subst hzl
    have := hl.zero; subst this
    cases hri : r.isIn with
    | false =>
      obtain ⟨n, val, ok, hG, _, hkd⟩ := hr.got; have HG := hZ hG
      have hkn : n.kind ≠ 2 := by
        rw [hkd]
        cases r with
        | nil => simp [Tre.knd]
        | leaf k v => simp [Tre.knd]
        | inner a b => cases hri
      have k6 : ((n.kind : Int) == 2) = false := nB (by omega)
      have HF : Hid (σ.Inv (if zr = 0 then R' else zr :: R') [] ∧ IsT σ zr d (xci .nil r)) := hZ (by
        refine ⟨hI.congr (fun z => ?_) (fun _ => rfl), ?_⟩
        · rw [hR z]
          by_cases h0 : zr = 0
          · rw [if_pos h0, if_neg (by simp), if_neg (by simp [h0])]; omega
          · rw [if_neg h0, List.count_cons, xer]
            rw [if_neg (show ¬ (z = 0 ∧ (0 : Int) ≠ 0) by simp)]; simp only [h0, ne_eq, not_false_eq_true, and_true]; omega
        · unfold xci
          rw [if_pos ⟨rfl, hri⟩]
          exact hr.down hri)
      clear h hI hl hr hol hor hbl hbr hall hR hRl hsz hkn hkd hG; have HL := Loc.start w; obtain ⟨w0, rfl⟩ := eW w; go_enter Tryz.func228, Tryz.ntmps228; go_upto_region 0 with fail; refine X1j ?_; go_upto_region 1 with fail; refine X1o ?_; refine X5h ?_; intro K hK; refine X95 ?_; refine X4x ?_; clear hK K; intro w HL; refine X96 ?_; go_upto_region 2 with fail; refine X7j ?_; go_wp2_with fail; go_ret; exact ⟨zr, D, vs, vf, σ, rfl, HH.out.below HL.below, Stp.of_below HL.below, HF.out.1, fun i hi hc => ⟨hi, rfl, rfl, hc⟩, HF.out.2, rfl, by omega⟩
    | true =>
      have hrk := Tre.Ok.ne hor hri; have hzr : zr ≠ 0 := fun e => by subst e; have := hr.zero; subst this; cases hri
      obtain ⟨j, hj, ej, cj, dj, sj, kj, dpj, kyj⟩ := hr.nz hzr
      have hmj : ((j : Int) + 1) ∈ R := List.count_pos_iff.1 (by
        have q1 := hR zr; have q2 : (if zr = zr ∧ zr ≠ 0 then 1 else 0 : Nat) = 1 := if_pos ⟨rfl, hzr⟩; rw [← ej]
        omega)
      have hhj : 0 < σ.slots[j].nd.held ∧ σ.slots[j].nd.held ≤ 4611686018427387904 := by
        have q1 := hI.held j hj; have q2 := List.count_pos_iff.2 hmj; have q3 := hI.held_le j hj; omega
      have hsj : 0 ≤ σ.slots[j].nd.size ∧ σ.slots[j].nd.size ≤ 1073741824 := by rw [sj]; omega
      have HNX : Hid (¬ (σ.next : Int) = 0) := hZ (by
        obtain ⟨i0, hx, _⟩ := hI.taken ⟨Nd.z, 0, []⟩
        omega)
      have hjk : xci .nil r = .inner .nil r := by
        unfold xci; rw [if_neg (by simp [hri]), if_neg (by simp [hrk])]
      subst ej; have hfr := xn3 hj hr hbr hrk; have kk : σ.slots[j].nd.kind = 2 := by rw [kj, hri]; rfl
      have HF := hZ (hI.oneSide (R' := R') hroom d j hd hj hr (l := .nil) (r := r) (fun z => by rw [hR z, if_neg (by simp)]; by_cases hq : z = (j : Int) + 1 <;> simp [hq, hzr]) ⟨xcn d σ.slots[j].nd.key tagE σ.slots[j].nd.dig 0 ((j : Int) + 1) σ.slots[j].nd.size, 1, []⟩ rfl rfl rfl rfl (by show tagI tagE σ.slots[j].nd.dig = _; rw [dj]; rfl) (by show σ.slots[j].nd.size = _; rw [sj]; simp [Tre.size]) rfl (.inr ⟨rfl, rfl, rfl, rfl⟩) hrk (fun k hk k' hk' x hx => hall k (by simp [hk]) k' (by simp [hk']) x hx) _ rfl); rw [hjk]; have HK : Hid (Got σ ((j : Int) + 1) σ.slots[j].nd σ.slots[j].val true) := hZ (.inl ⟨rfl, j, rfl, hj, rfl, rfl, cj⟩); have k6 : ((σ.slots[j].nd.kind : Int) == 2) = true := by rw [kk]; rfl
      have k1 : ((j : Int) + 1 == 0) = false := nB (by omega); have HQ := hZ (And.intro cj (And.intro hfr (And.intro hhj (And.intro hsj kk)))); have hN := hZ hI.nice; clear h hI hl hr hol hor hbl hbr hall hR hRl hsz hrk hzr hmj hhj hsj dj sj kj dpj kyj hjk hfr kk cj; have HL := Loc.start w; obtain ⟨w0, rfl⟩ := eW w; go_enter Tryz.func228, Tryz.ntmps228; go_upto_region 0 with fail; refine X1j ?_; go_upto_region 1 with fail; refine X1o ?_; refine X5h ?_; intro K hK; refine X97 ?_; refine X4x ?_; clear hK K; intro w HL; refine X98 ?_; go_upto_region 3 with fail; refine X11 ?_; refine X8n ?_; refine X99 ?_; refine X1t ?_; go_upto_region 5 with fail; refine X8c ?_; intro K hK; refine X8d ?_; (with_reducible refine (xj0 (HH.out.below HL.below) hN.out d hd j _ rfl hj _ rfl HQ.out.1 HQ.out.2.1 HQ.out.2.2.1 HQ.out.2.2.2.1 HQ.out.2.2.2.2 hroom).mono ?_)
      rintro e w ⟨D2, vs2, vf2, rfl, hP2, hS2⟩; refine X7d ?_; clear hK K; go_upto_region 6 with fail; refine X7j ?_; go_wp2_with fail; go_ret; exact ⟨_, D2, vs2, vf2, _, rfl, hP2, (Stp.of_below HL.below).trans hS2, by rw [if_neg HNX.out]; exact HF.out.1, HF.out.2.1, HF.out.2.2.1, HF.out.2.2.2.1, by rw [HF.out.2.2.2.2]; exact Nat.le_refl _⟩
  · by_cases hzr : zr = 0
    · subst hzr
      have := hr.zero; subst this
      cases hli : l.isIn with
      | false =>
        have hjk : xci l .nil = l := by
          unfold xci; by_cases hq : l.keys = []
          · have := xdv hol hq
            subst this; rfl
          · rw [if_neg (by simp [hq]), if_pos ⟨rfl, hli⟩]
        rw [hjk]; obtain ⟨n, val, ok, hG, _, hkd⟩ := hl.got; have HG := hZ hG
        have hkn : n.kind ≠ 2 := by
          rw [hkd]
          cases l with
          | nil => simp [Tre.knd]
          | leaf k v => simp [Tre.knd]
          | inner a b => cases hli
        have k6 : ((n.kind : Int) == 2) = false := nB (by omega); have k1 : (zl == 0) = false := by simpa using hzl
        have HF : Hid (σ.Inv (if zl = 0 then R' else zl :: R') [] ∧ IsT σ zl d l) := hZ (by
          refine ⟨hI.congr (fun z => ?_) (fun _ => rfl), hl.down hli⟩; rw [hR z, if_neg hzl, List.count_cons, xer]; rw [if_neg (show ¬ (z = 0 ∧ (0 : Int) ≠ 0) by simp)]; simp only [hzl, ne_eq, not_false_eq_true, and_true]
          omega)
        clear h hI hl hr hol hor hbl hbr hall hR hRl hsz hkn hkd hG hjk; have HL := Loc.start w; obtain ⟨w0, rfl⟩ := eW w; go_enter Tryz.func228, Tryz.ntmps228; go_upto_region 0 with fail; refine X1j ?_; go_upto_region 1 with fail; refine X11 ?_; refine X8n ?_; refine X99 ?_; refine X1t ?_; go_upto_region 3 with fail; refine X1o ?_; refine X5h ?_; intro K hK; refine X95 ?_; refine X4x ?_; clear hK K; intro w HL; refine X96 ?_; go_upto_region 4 with fail; refine X7j ?_; go_wp2_with fail; go_ret; exact ⟨zl, D, vs, vf, σ, rfl, HH.out.below HL.below, Stp.of_below HL.below, HF.out.1, fun i hi hc => ⟨hi, rfl, rfl, hc⟩, HF.out.2, rfl, by omega⟩
      | true =>
        have hlk := Tre.Ok.ne hol hli; obtain ⟨i, hi, ei, ci, di, si, ki, dpi, kyi⟩ := hl.nz hzl
        have hmi : ((i : Int) + 1) ∈ R := List.count_pos_iff.1 (by
          have q1 := hR zl; have q2 : (if zl = zl ∧ zl ≠ 0 then 1 else 0 : Nat) = 1 := if_pos ⟨rfl, hzl⟩; rw [← ei]
          omega)
        have hhi : 0 < σ.slots[i].nd.held ∧ σ.slots[i].nd.held ≤ 4611686018427387904 := by
          have q1 := hI.held i hi; have q2 := List.count_pos_iff.2 hmi; have q3 := hI.held_le i hi; omega
        have hsi : 0 ≤ σ.slots[i].nd.size ∧ σ.slots[i].nd.size ≤ 1073741824 := by rw [si]; omega
        have HNX : Hid (¬ (σ.next : Int) = 0) := hZ (by
          obtain ⟨i0, hx, _⟩ := hI.taken ⟨Nd.z, 0, []⟩
          omega)
        have hjk : xci l .nil = .inner l .nil := by
          unfold xci; rw [if_neg (by simp [hlk]), if_neg (by simp [hli])]
        subst ei; have hfl := xn2 hi hl hbl hlk; have kk : σ.slots[i].nd.kind = 2 := by rw [ki, hli]; rfl
        have HF := hZ (hI.oneSide (R' := R') hroom d i hd hi hl (l := l) (r := .nil) (fun z => by rw [hR z]; by_cases hq : z = (i : Int) + 1 <;> simp [hq, hzl]) ⟨xcn d σ.slots[i].nd.key σ.slots[i].nd.dig tagE ((i : Int) + 1) 0 σ.slots[i].nd.size, 1, []⟩ rfl rfl rfl rfl (by show tagI σ.slots[i].nd.dig tagE = _; rw [di]; rfl) (by show σ.slots[i].nd.size = _; rw [si]; simp [Tre.size]) rfl (.inl ⟨rfl, rfl, rfl, rfl⟩) hlk (fun k hk k' hk' x hx => hall k (by simp [hk]) k' (by simp [hk']) x hx) _ rfl); rw [hjk]; have HK : Hid (Got σ ((i : Int) + 1) σ.slots[i].nd σ.slots[i].val true) := hZ (.inl ⟨rfl, i, rfl, hi, rfl, rfl, ci⟩); have k6 : ((σ.slots[i].nd.kind : Int) == 2) = true := by rw [kk]; rfl
        have k1 : ((i : Int) + 1 == 0) = false := nB (by omega); have HQ := hZ (And.intro ci (And.intro hfl (And.intro hhi (And.intro hsi kk)))); have hN := hZ hI.nice; clear h hI hl hr hol hor hbl hbr hall hR hRl hsz hlk hzl hmi hhi hsi di si ki dpi kyi hjk hfl kk ci; have HL := Loc.start w; obtain ⟨w0, rfl⟩ := eW w; go_enter Tryz.func228, Tryz.ntmps228; go_upto_region 0 with fail; refine X1j ?_; go_upto_region 1 with fail; refine X11 ?_; refine X8n ?_; refine X99 ?_; refine X1t ?_; go_upto_region 3 with fail; refine X1o ?_; refine X5h ?_; intro K hK; refine X97 ?_; refine X4x ?_; clear hK K; intro w HL; refine X98 ?_; go_upto_region 5 with fail; refine X8c ?_; intro K hK; refine X8d ?_; (with_reducible refine (xkn (HH.out.below HL.below) hN.out d hd i _ rfl hi _ rfl HQ.out.1 HQ.out.2.1 HQ.out.2.2.1 HQ.out.2.2.2.1 HQ.out.2.2.2.2 hroom).mono ?_); rintro e w ⟨D2, vs2, vf2, rfl, hP2, hS2⟩
        refine X7d ?_; clear hK K; go_upto_region 6 with fail; refine X7j ?_; go_wp2_with fail; go_ret; exact ⟨_, D2, vs2, vf2, _, rfl, hP2, (Stp.of_below HL.below).trans hS2, by rw [if_neg HNX.out]; exact HF.out.1, HF.out.2.1, HF.out.2.2.1, HF.out.2.2.2.1, by rw [HF.out.2.2.2.2]; exact Nat.le_refl _⟩
    · skip
      obtain ⟨i, hi, ei, ci, di, si, ki, dpi, kyi⟩ := hl.nz hzl
      have hmi : ((i : Int) + 1) ∈ R := List.count_pos_iff.1 (by
        have q1 := hR zl; have q2 : (if zl = zl ∧ zl ≠ 0 then 1 else 0 : Nat) = 1 := if_pos ⟨rfl, hzl⟩; rw [← ei]
        omega)
      have hhi : 0 < σ.slots[i].nd.held ∧ σ.slots[i].nd.held ≤ 4611686018427387904 := by
        have q1 := hI.held i hi; have q2 := List.count_pos_iff.2 hmi; have q3 := hI.held_le i hi; omega
      have hsi : 0 ≤ σ.slots[i].nd.size ∧ σ.slots[i].nd.size ≤ 1073741824 := by rw [si]; omega
      obtain ⟨j, hj, ej, cj, dj, sj, kj, dpj, kyj⟩ := hr.nz hzr
      have hmj : ((j : Int) + 1) ∈ R := List.count_pos_iff.1 (by
        have q1 := hR zr; have q2 : (if zr = zr ∧ zr ≠ 0 then 1 else 0 : Nat) = 1 := if_pos ⟨rfl, hzr⟩; rw [← ej]
        omega)
      have hhj : 0 < σ.slots[j].nd.held ∧ σ.slots[j].nd.held ≤ 4611686018427387904 := by
        have q1 := hI.held j hj; have q2 := List.count_pos_iff.2 hmj; have q3 := hI.held_le j hj; omega
      have hsj : 0 ≤ σ.slots[j].nd.size ∧ σ.slots[j].nd.size ≤ 1073741824 := by rw [sj]; omega
      have HNX : Hid (¬ (σ.next : Int) = 0) := hZ (by
        obtain ⟨i0, hx, _⟩ := hI.taken ⟨Nd.z, 0, []⟩
        omega)
      have hlk : l.keys ≠ [] := fun e => hzl (by have := xdv hol e; subst this; exact hl)
      have hrk : r.keys ≠ [] := fun e => hzr (by have := xdv hor e; subst this; exact hr)
      have hjk : xci l r = .inner l r := by
        unfold xci; rw [if_neg (by simp [hlk]), if_neg (by simp [hrk])]
      subst ei; subst ej; have hfl := xn2 hi hl hbl hlk; have hfr := xn3 hj hr hbr hrk
      have hne : i ≠ j := fun e => by
        subst e; have q1 := hfl.bit; have q2 := hfr.bit; omega
      have hok : (Tre.inner l r).Ok d := ⟨hd, hol, hor, hbl, hbr, hall, fun e => absurd e hlk, fun e => absurd e hrk⟩
      have hcm : d ≤ comm σ.slots[i].nd.key.l σ.slots[j].nd.key.l := by
        obtain ⟨k1, hk1⟩ := List.exists_mem_of_ne_nil _ hlk; obtain ⟨k2, hk2⟩ := List.exists_mem_of_ne_nil _ hrk; refine Nat.le_of_not_lt fun hlt => ?_
        refine xek σ.slots[i].nd.key.l σ.slots[j].nd.key.l (by omega) ?_; rw [kyi k1 hk1 _ (by omega), kyj k2 hk2 _ (by omega)]; exact hall k1 (by simp [hk1]) k2 (by simp [hk2]) _ hlt
      have HF := hZ (hI.both (R' := R') hroom d i j hd hi hj hne hl hr hok (fun z => by rw [hR z]; simp only [hzl, hzr, ne_eq, not_false_eq_true, and_true]) _ rfl); rw [hjk]; have k1 : ((i : Int) + 1 == 0) = false := nB (by omega); have k2 : ((j : Int) + 1 == 0) = false := nB (by omega); have HQ := hZ (And.intro ci (And.intro hfl (And.intro hhi hsi))); have HQ2 := hZ (And.intro cj (And.intro hfr (And.intro hhj (And.intro hsj (And.intro hne hcm))))); have hN := hZ hI.nice; clear h hI hl hr hol hor hbl hbr hall hR hRl hsz hlk hrk hzl hzr hmi hhi hsi di si ki dpi kyi hmj hhj hsj dj sj kj dpj kyj hjk hfl hfr ci cj hne hok hcm; have HL := Loc.start w; obtain ⟨w0, rfl⟩ := eW w; go_enter Tryz.func228, Tryz.ntmps228; go_upto_region 0 with fail; refine X1j ?_; go_upto_region 1 with fail; refine X11 ?_; refine X8n ?_; refine X99 ?_; refine X1t ?_; go_upto_region 3 with fail; refine X11 ?_
      refine xaa rfl _ (xa3 (b := false) _ _ rfl _ _ rfl rfl k2) ?_; refine X99 ?_; refine X1t ?_; go_upto_region 5 with fail; refine X8c ?_; intro K hK; refine X8d ?_; (with_reducible refine (xgl (HH.out.below HL.below) hN.out d hd i _ rfl hi _ rfl HQ.out.1 HQ.out.2.1 HQ.out.2.2.1 HQ.out.2.2.2 j _ rfl hj _ rfl HQ2.out.1 HQ2.out.2.1 HQ2.out.2.2.1 HQ2.out.2.2.2.1 HQ2.out.2.2.2.2.1 HQ2.out.2.2.2.2.2 hroom).mono ?_); rintro e w ⟨D2, vs2, vf2, rfl, hP2, hS2⟩; refine X7d ?_; clear hK K; go_upto_region 6 with fail; refine X7j ?_; go_wp2_with fail; go_ret; exact ⟨_, D2, vs2, vf2, _, rfl, hP2, (Stp.of_below HL.below).trans hS2, by rw [if_neg HNX.out]; exact HF.out.1, HF.out.2.1, HF.out.2.2.1, HF.out.2.2.2.1, by rw [HF.out.2.2.2.2]; exact Nat.le_refl _⟩
end
structure Wrt where
  key : D32
  gone : Bool
  val : Sv
def Wrt.cells (x : Wrt) : List Value := x.key.c ++ ([Value.bool x.gone] ++ ([x.val.v] ++ []))
theorem Wrt.len (x : Wrt) : x.cells.length = 34 := by
  simp only [Wrt.cells, qp, D32.cl, qr, qs]
theorem Wrt.one (x : Wrt) : ∀ u ∈ x.cells, u.oneCell' = true := by
  intro u hu; simp only [Wrt.cells, List.mem_append, List.mem_cons, List.not_mem_nil, or_false] at hu; rcases hu with hu | rfl | rfl
  · exact D32.c1 _ u hu
  · rfl
  · rfl
def Wrt.z : Wrt := ⟨D32.z, false, Sv.nil⟩
theorem Wrt.g_key (x : Wrt) : (x.cells.drop 0).take 32 = x.key.c := by unfold Wrt.cells; exact Zd
theorem Wrt.s_key (x : Wrt) (y : D32) : splice x.cells 0 y.c = ({x with key := y} : Wrt).cells := by unfold Wrt.cells; exact Zp
theorem Wrt.g_gone (x : Wrt) : x.cells[32]? = some (Value.bool x.gone) := by unfold Wrt.cells; exact Zg
theorem Wrt.s_gone (x : Wrt) (y : Bool) : x.cells.set 32 (Value.bool y) = ({x with gone := y} : Wrt).cells := by unfold Wrt.cells; exact Zs
theorem Wrt.g_val (x : Wrt) : x.cells[33]? = some (x.val.v) := by unfold Wrt.cells; exact Zg
theorem Wrt.s_val (x : Wrt) (y : Sv) : x.cells.set 33 (y.v) = ({x with val := y} : Wrt).cells := by unfold Wrt.cells; exact Zs
structure WriS (w : World) (A : Option Addr) (n c : Nat) (ws : List Wrt) : Prop where
  rd : Rd w A (ws.flatMap Wrt.cells)
  len : ws.length = n
  cap : n ≤ c
theorem WriS.below {w w' : World} {A : Option Addr} {n c : Nat} {ws : List Wrt} (h : WriS w A n c ws) (hb : Below w.heap.size w w') : WriS w' A n c ws := ⟨h.rd.below hb, h.len, h.cap⟩
theorem WriS.at_ {w : World} {A : Option Addr} {n c : Nat} {ws : List Wrt} (h : WriS w A n c ws) (i : Nat) (hi : i < ws.length) : ∃ ad, A = some ad ∧ Rd w (some (ad.add (i * 34))) ws[i].cells := by
  obtain ⟨ad, e, _⟩ := h.rd (by rw [xcc Wrt.len]; omega); refine ⟨ad, e, ?_⟩; have h2 := h.rd.cut (i * 34) 34; rw [e] at h2; have h3 := xeo (f := Wrt.cells) Wrt.len ws [] i hi; rw [List.append_nil] at h3; rw [h3] at h2; exact h2
def xbe (d : Nat) (ws : List Wrt) : Nat := (ws.takeWhile fun x => !tb x.key.l d).length
theorem xpo {d i : Nat} {ws : List Wrt} (hi : i < ws.length) (h : i ≤ xbe d ws) (hb : tb ws[i].key.l d = false) : i + 1 ≤ xbe d ws := by
  unfold xbe at h ⊢
  induction ws generalizing i with
  | nil => exact absurd hi (Nat.not_lt_zero _)
  | cons x ws ih =>
    cases i with
    | zero =>
      rw [List.getElem_cons_zero] at hb; rw [List.takeWhile_cons, hb]; simp
    | succ i =>
      rw [List.takeWhile_cons] at h ⊢
      cases hx : tb x.key.l d with
      | true => rw [hx] at h; simp at h
      | false =>
        rw [hx] at h; simp only [Bool.not_false, if_true, qr] at h ⊢; have := ih (by simpa using hi) (by omega) (by simpa using hb); omega
theorem xpp {d i : Nat} {ws : List Wrt} (hi : i < ws.length) (h : i ≤ xbe d ws) (hb : tb ws[i].key.l d = true) : xbe d ws = i := by
  unfold xbe at h ⊢
  induction ws generalizing i with
  | nil => exact absurd hi (Nat.not_lt_zero _)
  | cons x ws ih =>
    cases i with
    | zero =>
      rw [List.getElem_cons_zero] at hb; rw [List.takeWhile_cons, hb]; simp
    | succ i =>
      rw [List.takeWhile_cons] at h ⊢
      cases hx : tb x.key.l d with
      | true => rw [hx] at h; simp at h
      | false =>
        rw [hx] at h; simp only [Bool.not_false, if_true, qr] at h ⊢; have := ih (by simpa using hi) (by omega) (by simpa using hb); omega
theorem xj2 (d : Nat) (ws : List Wrt) : xbe d ws ≤ ws.length := (List.takeWhile_sublist _).length_le
section
variable {w w' : World}
theorem xk9 (A : Option Addr) (n c : Nat) (ws : List Wrt) (d : Nat) (hd : d < 256) (h : WriS w A n c ws) (hn : n ≤ 1000000) : Calls Tryz.prog 227 #[.slice A n c, .int .i64 (d : Int)] w fun e w' => e = .returned (.int .i64 ((xbe d ws : Nat) : Int)) ∧ Below w.heap.size w w' := by
  have HW := hZ h; have hlen := h.len; clear h; have HL := Loc.start w; obtain ⟨w0, rfl⟩ := eW w; go_enter Tryz.func227, Tryz.ntmps227; go_upto_region 0 with fail; refine X1j ?_; go_upto_region 1 with fail; refine X1j ?_; go_wp2_with fail
  go_loopw [5] (fun z wr => ∃ i : Nat, i ≤ xbe d ws ∧ z = .int .i64 (i : Int) ∧ Loc w0 (Old w0) [] wr) (fun z _ => (ws.length - intOf z).toNat)
  case atStart => exact ⟨0, Nat.zero_le _, rfl, HL⟩
  case round => as_aux_lemma =>
    clear HL; obtain ⟨i, hi, rfl, HL⟩ := hrel; obtain ⟨w, rfl⟩ := eW wr; have hz := xj2 d ws; by_cases hlt : i < n
    · have k3 : decide ((i : Int) < (n : Int)) = true := by simp; omega
      refine X9a ?_; intro HI; have hil : i < ws.length := by omega
      obtain ⟨ad, hA, _⟩ := HW.out.at_ i hil; refine X9b ?_; intro HSV
      have hrd : ∀ u, Below w0.heap.size w0 u → Rd u (some (ad.add (i * 34))) ws[i].cells := fun u hu => by
        obtain ⟨ad2, hA2, h2⟩ := (HW.out.below hu).at_ i hil; rw [hA] at hA2; cases hA2; exact h2
      have HRD := hZ hrd; obtain ⟨b, hb⟩ : ∃ b, tb ws[i].key.l d = b := ⟨_, rfl⟩; have HB := hZ hb; have CB : ∀ u : World, Hid (Calls Tryz.prog 150 #[ws[i].key.a, .int .i64 (d : Int)] u fun e w' => e = .returned (.int .i64 (b.toNat : Int)) ∧ Below u.heap.size u w') := fun u => hZ (by rw [← hb]; exact xjy u ws[i].key d hd)
      have HK : ∀ u, Below w0.heap.size w0 u → Hid (Rd u (some ((ad.add (i * 34)).add 0)) ws[i].key.c) := fun u hu => hZ (by
        have h1 := (HRD.out u hu).cut 0 32; rw [Wrt.g_key] at h1
        exact h1)
      clear hA hb hrd
      cases b with
      | false =>
        go_upto_region 2 with fail; refine X18 ?_; refine X9c ?_; refine X5 ?_; refine X9d ?_; refine X26 ?_; refine X9e ?_; refine X5 ?_; refine xad rfl _ (xfm xg8 _ rfl _ rfl) ?_; refine X5 ?_; refine X9f ?_; refine X5 ?_; refine X5h ?_; intro K hK; refine X5a ?_; (with_reducible refine ((CB _).out).mono ?_); refine X4x ?_; clear hK K; intro w HL; refine X2b ?_; go_upto_region 3 with fail; refine X11 ?_; refine X9g ?_; refine X19 ?_; go_wp2_with fail; go_roundw
        case rel => exact ⟨i + 1, xpo hil hi HB.out, rfl, HL⟩
        case measure => simp [intOf] <;> omega
      | true =>
        have HZ : Hid (xbe d ws = i) := hZ (xpp hil hi HB.out); go_upto_region 2 with fail; refine X18 ?_; refine X9c ?_; refine X5 ?_; refine X9d ?_; refine X26 ?_; refine X9e ?_; refine X5 ?_; refine xad rfl _ (xfm xg8 _ rfl _ rfl) ?_; refine X5 ?_; refine X9f ?_; refine X5 ?_; refine X5h ?_; intro K hK; refine X5a ?_; (with_reducible refine ((CB _).out).mono ?_); refine X4x ?_; clear hK K; intro w HL; refine X2b ?_; go_upto_region 4 with fail; refine X7j ?_; go_wp2_with fail; go_ret; exact ⟨by rw [HZ.out]; rfl, HL.below⟩
    · have k3 : decide ((i : Int) < (n : Int)) = false := by simp; omega
      have HZ : Hid (xbe d ws = i) := hZ (by omega); go_upto_region 2 with fail; refine X18 ?_; refine X9c ?_; refine X5 ?_; refine X9d ?_; refine X99 ?_; refine no_implicit_lambda% (X2g ?_); refine X29 ?_; go_upto_region 4 with fail; refine X7j ?_; go_wp2_with fail; go_ret; exact ⟨by rw [HZ.out]; rfl, HL.below⟩
end
section
variable {P : Program} {ops : Array Oper} {Q : Exit → Act → World → Prop} {S S' : World → Prop} {F pl : List Nat} {g : Nat}
theorem xca (ord : List Nat) (g' : Nat) {l : List Oper} {dn : List Nat} {a : Act} {w : World} (hp : (xdq l.toArray F pl dn ord && ord.length + g' == g && ord.all (· < l.length)) = true)
    (h : wpT P l.toArray Q S F pl g' dn (pick l ord) a w) : wpT P l.toArray Q S F pl g dn [] a w := by
  intro _ _ hQ; simp only [Bool.and_eq_true, beq_iff_eq] at hp; obtain ⟨⟨h1, h2⟩, h3⟩ := hp; have h4 := h (xlp h3) (by rw [xm1]; exact h1) hQ; rw [show (pick l ord).length = ord.length by simp [pick]] at h4; simpa [h2] using h4
def wpB (P : Program) (ops : Array Oper) (Q : Exit → Act → World → Prop) (S : World → Prop) (F pl : List Nat) (g : Nat) (dn : List Nat) (a : Act) (w : World) : List (Nat × Oper) → Prop
  | [] => True
  | (i, o) :: r => (Region.wanted o (yielded ops a.tmps) = true ∧ ∀ K : Act → World → Prop, (∀ a' w', (F.contains i = false → S w') → wpT P ops Q S F pl g (i :: dn) [] a' w' → K a' w') → o.wp P a w K Q) ∧ wpB P ops Q S F pl g dn a w r
theorem wpB_at {dn : List Nat} {a : Act} {w : World} : ∀ {r : List (Nat × Oper)}, wpB P ops Q S F pl g dn a w r → ∀ x ∈ r, Region.wanted x.2 (yielded ops a.tmps) = true ∧
    ∀ K : Act → World → Prop, (∀ a' w', (F.contains x.1 = false → S w') → wpT P ops Q S F pl g (x.1 :: dn) [] a' w' → K a' w') → x.2.wp P a w K Q
  | [], _, x, hx => by simp at hx
  | (i, o) :: r, h, x, hx => by
    rcases List.mem_cons.1 hx with rfl | hx
    · exact h.1
    · exact wpB_at h.2 x hx
theorem xdj (ids : List Nat) {l : List Oper} {dn : List Nat} {a : Act} {w : World} (hp : (Region.ready .any l.toArray (listed l.toArray.size dn) == ids && !ids.isEmpty && ids.all (· < l.length)) = true)
    (h : wpB P l.toArray Q S F pl g dn a w (pick l ids)) : wpT P l.toArray Q S F pl (g + 1) dn [] a w := by
  intro _ _ hQ; simp only [Bool.and_eq_true, beq_iff_eq] at hp; obtain ⟨⟨h1, h2⟩, h3⟩ := hp; rw [show ([] : List (Nat × Oper)).length + (g + 1) = g + 1 by simp]; refine ⟨fun h0 => (by rw [h1] at h0; subst h0; simp at h2), fun j hj => ?_⟩; rw [h1] at hj; have hx : (j, l.getD j default) ∈ pick l ids := List.mem_map.2 ⟨j, hj, rfl⟩; obtain ⟨hw, hh⟩ := wpB_at h _ hx; have hi := xlp h3 _ hx; unfold wpOp; simp only at hw hi hh; simp only [hi, hw, if_true]; exact .inl (hh _ fun a' w' g1 g2 => ⟨g1, (by have h5 := g2 (fun x hx => by simp at hx) rfl hQ; simp only [qs, Nat.zero_add] at h5; exact h5)⟩)
end
def Wrt.ky (x : Wrt) : Nat := nOf x.key.l
def Srt {α : Type} (f : α → Nat) (l : List α) : Prop := l.Pairwise fun p q => f p ≤ f q
section
variable {α : Type} {f : α → Nat}
theorem Srt.sublist {l m : List α} (h : Srt f l) (hs : m.Sublist l) : Srt f m := List.Pairwise.sublist hs h
theorem srt_one (f : α → Nat) (l : List α) : Srt f (l.take 1) := by
  cases l with
  | nil => exact List.Pairwise.nil
  | cons x l => exact List.pairwise_singleton _ _
theorem srt_last {A : List α} {y : α} {c : Nat} (h : Srt f (A ++ [y])) (hc : f y ≤ c) : ∀ z ∈ A ++ [y], f z ≤ c := by
  intro z hz; rcases List.mem_append.1 hz with hz | hz
  · exact Nat.le_trans ((List.pairwise_append.1 h).2.2 z hz y (by simp)) hc
  · rw [List.mem_singleton.1 hz]; exact hc
theorem xn4 (A B C : List α) (x : α) (f : α → Nat) (i : Nat) (hl : A.length + B.length = i) (h : Srt f (A ++ B)) (hB : ∀ y ∈ B, f x < f y) (hA : ∀ y ∈ A, f y ≤ f x) : Srt f ((A ++ x :: (B ++ C)).take (i + 1)) := by
  have e : A ++ x :: (B ++ C) = (A ++ x :: B) ++ C := by simp
  rw [e, List.take_left' (by simp; omega)]; obtain ⟨h1, h2, h3⟩ := List.pairwise_append.1 h; refine List.pairwise_append.2 ⟨h1, List.pairwise_cons.2 ⟨fun y hy => Nat.le_of_lt (hB y hy), h2⟩, fun a ha b hb => ?_⟩; rcases List.mem_cons.1 hb with rfl | hb
  · exact hA a ha
  · exact h3 a ha b hb
theorem xn5 (A T : List α) (x y : α) : (A ++ x :: y :: T).Perm (A ++ y :: x :: T) := (List.Perm.swap _ _ _).append_left A
theorem swp_get {A T : List α} {y x : α} {m : Nat} (h : A.length = m) : ∃ (h1 : m < (A ++ y :: x :: T).length) (h2 : m + 1 < (A ++ y :: x :: T).length), (A ++ y :: x :: T)[m] = y ∧ (A ++ y :: x :: T)[m + 1] = x ∧ ((A ++ y :: x :: T).set (m + 1) y).set m x = A ++ x :: y :: T := by
  subst h; refine ⟨by simp, by simp, by simp, by simp, ?_⟩; simp [List.set_append]
end
theorem Loc.of1 {w0 w : World} {g t : Nat} {cs : List Value} (hf : Fr (· = g) w0 w) (hb : Blk w g t cs) : Loc w0 (fun k => Old w0 k ∧ ¬ k = g) [(g, t, cs)] w := by
  refine ⟨⟨hf.os, hf.tape, hf.output, hf.size, fun k hk hn => hf.block k hk (fun e => hn (fun hd => hd.2 e))⟩, fun x hx => ?_, List.pairwise_singleton _ _, fun k hk => hk.1⟩; rw [List.mem_singleton.1 hx]; exact ⟨fun hd => hd.2 rfl, hb⟩
section
variable {w w' : World}
theorem cmp_w (x y : Wrt) (w : World) : Calls Tryz.prog 230 #[.agg x.cells.toArray, .agg y.cells.toArray] w fun e w' => e = .returned (.int .i64 (cmpZ x.ky y.ky)) ∧ Below w.heap.size w w' := by
  have HL := Loc.start w; obtain ⟨w0, rfl⟩ := eW w; have CC := fun u => hZ (xsf u x.key y.key)
  go_enter Tryz.func230, Tryz.ntmps230; go_upto_region 0 with fail; refine Xs ?_; refine xcb rfl _ rfl HL _ rfl ?_; clear HL; intro g2 w HL; refine X5 ?_; refine xcb rfl _ rfl HL _ rfl ?_; clear HL; intro g3 w HL; refine X19 ?_; go_upto_region 1 with fail; refine Xs ?_; refine X9h ?_; refine xaa rfl _ (xbt ag24 HL _ rfl _ _ rfl _ _ _ (.tail _ (.head _)) (Wrt.g_key _) (D32.cl _)) ?_; refine X5 ?_; refine X9i ?_; refine X4z ?_; intro K hK; refine xac cf14 rfl _ rfl ?_; refine X1y ?_; (with_reducible refine ((CC _).out).mono ?_); refine X7i ?_; clear hK K; intro w HL; go_wp2_with fail; go_ret; exact ⟨rfl, HL.below⟩
theorem ins_w (g n c : Nat) (ws : List Wrt) (sp : List Value) (w : World) (hb : Blk w g 222 (ws.flatMap Wrt.cells ++ sp)) (hn : ws.length = n) (hc : n ≤ c) (h63 : n ≤ 1000000) :
    Calls Tryz.prog 252 #[.slice (some ⟨g, 0, none⟩) n c, .int .i64 0, .int .i64 (n : Int), .func (.func 230) #[] #[]] w fun e w' => e = .returned (.tuple #[]) ∧ ∃ ws', ws'.Perm ws ∧ Srt Wrt.ky ws' ∧ Blk w' g 222 (ws'.flatMap Wrt.cells ++ sp) ∧ Fr (· = g) w w' := by
  have HN := hZ hn; clear hn; have hf : Fr (· = g) w w := Fr.refl _ _; obtain ⟨w0, rfl⟩ := eW w; have HL : Loc w0 (fun _ => False) [] w0 := Loc.start' w0 _ (fun k h => h.elim); have H01 : Hid ((0 : Int) + 1 = ((1 : Nat) : Int)) := hZ rfl; go_enter Tryz.func252, Tryz.ntmps252; go_upto_region 0 with fail; refine X9j ?_; refine X19 ?_; go_wp2_with fail; clear HL
  go_loopw [8] (fun z wr => ∃ (i : Nat) (ys : List Wrt), 1 ≤ i ∧ (i ≤ n ∨ i = 1) ∧ z = .int .i64 (i : Int) ∧ ys.Perm ws ∧ Srt Wrt.ky (ys.take i) ∧ Blk wr g 222 (ys.flatMap Wrt.cells ++ sp) ∧ Fr (· = g) w0 wr) (fun z _ => (n + 1 - intOf z).toNat)
  case atStart => exact ⟨1, ws, Nat.le_refl _, .inr rfl, rfl, .refl _, srt_one _ _, hb, hf⟩
  case round => as_aux_lemma =>
    clear hb hf; obtain ⟨i, ys, hi1, hi2, rfl, hp, hs, hb, hf⟩ := hrel; obtain ⟨w, rfl⟩ := eW wr; have hyl : ys.length = n := by rw [hp.length_eq, HN.out]
    have HL : Loc w0 (fun k => Old w0 k ∧ ¬ k = g) [(g, 222, ys.flatMap Wrt.cells ++ sp)] w := Loc.of1 hf hb; clear hb hf; by_cases hlt : i < n
    · have k14 : decide ((i : Int) < (n : Int)) = true := by simp; omega
      refine X9k ?_; intro HI1; have hil : i < ys.length := by omega
      have ey : ys = ys.take i ++ ys[i] :: ys.drop (i + 1) := by rw [List.getElem_cons_drop, List.take_append_drop]
      have hAl : (ys.take i).length = i := by rw [List.length_take]; omega
      have hCl : (ys.drop (i + 1)).length + i + 1 = n := by rw [List.length_drop]; omega
      generalize ys.take i = A0 at *; generalize ys[i] = x at *; generalize ys.drop (i + 1) = CC at *; subst ey; go_upto_region 1 with fail; refine X18 ?_; refine X9l ?_; refine X21 ?_; go_upto_region 3 with fail; refine X7j ?_; have hb := HL.blk (.head _); have hf := HL.frS; clear HL; go_wp2_with fail
      go_loopw [9] (fun z wr => ∃ (j : Nat) (A B : List Wrt), z = .int .i64 (j : Int) ∧ A.length = j ∧ A.length + B.length = i ∧ (A ++ x :: (B ++ CC)).Perm ws ∧ Srt Wrt.ky (A ++ B) ∧ (∀ y ∈ B, Wrt.ky x < Wrt.ky y) ∧ Blk wr g 222 ((A ++ x :: (B ++ CC)).flatMap Wrt.cells ++ sp) ∧ Fr (· = g) w0 wr) (fun z _ => (intOf z).toNat)
      case atStart => exact ⟨i, A0, [], rfl, hAl, by simpa using hAl, by simpa using hp, by simpa using hs, (fun y hy => by cases hy), by simpa using hb, hf⟩
      case round => as_aux_lemma =>
        clear hb hf hp hs hAl hyl hil A0 hi2; obtain ⟨j, A, B, rfl, hAj, hAB, hp, hs, hB, hb, hf⟩ := hrel; obtain ⟨w, rfl⟩ := eW wr; have HL : Loc w0 (fun k => Old w0 k ∧ ¬ k = g) [(g, 222, (A ++ x :: (B ++ CC)).flatMap Wrt.cells ++ sp)] w := Loc.of1 hf hb; rcases List.eq_nil_or_concat A with rfl | ⟨A1, y, hA⟩
        · have e0 : j = 0 := hAj.symm
          subst e0; have k2 : decide ((0 : Int) < ((0 : Nat) : Int)) = false := by simp
          have HTK : Hid (Srt Wrt.ky (([] ++ x :: (B ++ CC)).take (i + 1))) := hZ (xn4 [] B CC x Wrt.ky i (by simpa using hAB) hs hB (fun y hy => by cases hy)); clear hb hf; go_upto_region 4 with fail; refine X9m ?_; refine X3u ?_; intro HL; refine xab rfl rfl HL (fun W hW => xch (b := false) _ _ rfl _ _ rfl rfl k2) ?_; refine X3g ?_; refine X80 ?_; refine X80 ?_; refine X7z ?_; refine X81 ?_; refine X7y ?_; refine X3i ?_; refine Xm ?_; go_upto_region 2 with fail; refine X9o ?_; go_wp2_with fail; go_roundw
          case rel => exact ⟨i + 1, [] ++ x :: (B ++ CC), by omega, by omega, rfl, hp, HTK.out, HL.blk (.head _), HL.frS⟩
          case measure => simp [intOf] <;> omega
        · rw [List.concat_eq_append] at hA
          subst hA; obtain ⟨m, hm⟩ : ∃ m, A1.length = m := ⟨_, rfl⟩; have hj1 : j = m + 1 := by rw [← hAj]; simp [hm]
          subst hj1; have k2 : decide ((0 : Int) < ((m + 1 : Nat) : Int)) = true := by simp
          have HJ1 : Hid (((m + 1 : Nat) : Int) - 1 = (m : Int)) := hZ (by omega); have eY : A1 ++ [y] ++ x :: (B ++ CC) = A1 ++ y :: x :: (B ++ CC) := by simp
          obtain ⟨h1, h2, hg1, hg2, hsw⟩ := swp_get (y := y) (x := x) (T := B ++ CC) hm
          have hjn : m + 1 < n := by
            simp only [qp, List.length_singleton, hm] at hAB; omega
          have Hx0 := xeo Wrt.len (A1 ++ y :: x :: (B ++ CC)) sp (m + 1) h2; have Hy0 := xeo Wrt.len (A1 ++ y :: x :: (B ++ CC)) sp m h1; rw [hg2] at Hx0; rw [hg1] at Hy0; have HS1 := xd8 Wrt.len (A1 ++ y :: x :: (B ++ CC)) sp (m + 1) y h2; have HS2 := xd8 Wrt.len ((A1 ++ y :: x :: (B ++ CC)).set (m + 1) y) sp m x (by rw [List.length_set]; exact h1); rw [hsw] at HS2; have hjl : (m + 1) * 34 + 34 ≤ ((A1 ++ y :: x :: (B ++ CC)).flatMap Wrt.cells ++ sp).length := by rw [List.length_append, xcc Wrt.len]; have := h2; omega
          have hml : m * 34 + 34 ≤ (((A1 ++ y :: x :: (B ++ CC)).set (m + 1) y).flatMap Wrt.cells ++ sp).length := by rw [List.length_append, xcc Wrt.len, List.length_set]; have := h1; omega
          rw [eY] at HL hb hp; have Hx := Hx0; have Hy := Hy0; obtain ⟨cz, hcz⟩ : ∃ cz, cmpZ (Wrt.ky x) (Wrt.ky y) = cz := ⟨_, rfl⟩; have CB : ∀ u : World, Hid (Calls Tryz.prog 230 #[.agg x.cells.toArray, .agg y.cells.toArray] u fun e w' => e = .returned (.int .i64 cz) ∧ Below u.heap.size u w') := fun u => hZ (by rw [← hcz]; exact cmp_w x y u)
          clear h1 h2 hg1 hg2 eY; by_cases hxy : Wrt.ky x < Wrt.ky y
          · have k15 : decide (cz < 0) = true := by
              rw [← hcz]; unfold cmpZ; rw [if_pos hxy]; rfl
            clear hb hf; go_upto_region 4 with fail; refine X9m ?_; refine X3u ?_; intro HL; refine X9p ?_; refine X9q ?_; refine X5 ?_; refine X9r ?_; refine X6s ?_; refine X9s ?_; refine X5 ?_; refine X9t ?_; refine X5 ?_; refine X9u ?_; refine Xf ?_; intro K hK; refine xn1 cf230 rfl rfl _ rfl ?_; refine X1y ?_; (with_reducible refine (CB _).out.mono ?_); rintro e w ⟨rfl, hb2⟩; replace HL := HL.next hb2; clear hb2; refine X58 ?_; clear hK K; refine xab rfl rfl HL (fun W hW => xbm (b := true) _ _ rfl _ _ rfl rfl k15) ?_; refine X3k ?_; have hb := HL.blk (.head _); have hf := HL.frS; clear HL Hx0 Hy0; have HL : Loc w0 (fun _ => False) [] w := ⟨⟨hf.os, hf.tape, hf.output, hf.size, fun k hk hn => absurd not_false hn⟩, fun x h => by simp at h, List.Pairwise.nil, fun k h => h.elim⟩; go_upto_region 6 with fail; replace hb := hb.drew; replace hf := hf.drew
            refine rB (Loc.P HL) [] [9, 13, 15, 16, 17] [0, 1, 2, 3, 4, 5, 6, 7, 8, 10, 11, 12] 6 ?_; refine X3u ?_; intro HL; refine X3t ?_; refine X9s ?_; refine X6s ?_; refine X9s ?_; refine X5 ?_; refine X9t ?_; refine X6s ?_; refine X9q ?_; refine X5 ?_; refine xdj [9, 13] (by kernel_rfl) ?_; refine X3 ?_; refine ⟨⟨rfl, ?_⟩, ⟨rfl, ?_⟩, trivial⟩
            · intro K hK
              refine xbg (xb8 ag222 _ rfl g (m * 34) 222 _ _ rfl hb Hy (Wrt.len _)) ?_; refine X3w ?_; clear hK K; refine xca [13, 14, 15, 16, 17] 0 (by kernel_rfl) ?_; refine X9v ?_; intro K hK; refine X9w ?_; clear hK K; refine X9q ?_; refine Xf ?_; intro K hK; refine X9x ?_; intro w2 hb2 hg2 _; rw [HS1] at hb2; have hf2 := hf.grown hg2 (fun k hk => .inl (by cases hk; rfl)); refine X9y ?_; intro HL2; refine X9z ?_; clear hK K; clear HL hb hf; have HL := HL2; have hb := hb2; have hf := hf2; clear HL2 hb2 hf2; refine Xe ?_; intro K hK; refine xbg (xbc xcd _ _ rfl g n c m .i64 rfl rfl (by omega)) ?_; refine X3x ?_; clear hK K; intro K hK; refine xbs ag222.i _ _ rfl g (m * 34) 222 _ _ rfl rfl hb (Wrt.len _) hml (Wrt.one _) ?_; intro w2 hb2 hg2 _; rw [HS2] at hb2; have hf2 := hf.grown hg2 (fun k hk => .inl (by cases hk; rfl)); refine X9y ?_; intro HL2
              refine X9z ?_; clear hK K; clear HL hb hf; have HL := HL2; have hb := hb2; have hf := hf2; clear HL2 hb2 hf2; refine X9 ?_; go_upto_region 5 with fail; refine Xa0 ?_; refine X19 ?_; go_wp2_with fail; go_roundw
              case rel => exact ⟨m, A1, y :: B, rfl, hm, by simp at hAB ⊢; omega, (xn5 A1 (B ++ CC) x y).trans hp, by simpa using hs, (fun u hu => by
                rcases List.mem_cons.1 hu with rfl | hu
                · exact hxy
                · exact hB u hu), hb, hf⟩
              case measure => simp [intOf] <;> omega
            · intro K hK
              refine X9w ?_; clear hK K; refine xca [9, 14, 15, 16, 17] 0 (by kernel_rfl) ?_; refine X9v ?_; intro K hK; refine xbg (xb8 ag222 _ rfl g (m * 34) 222 _ _ rfl hb Hy (Wrt.len _)) ?_; refine X3w ?_; clear hK K; refine X9q ?_; refine Xf ?_; intro K hK; refine X9x ?_; intro w2 hb2 hg2 _; rw [HS1] at hb2; have hf2 := hf.grown hg2 (fun k hk => .inl (by cases hk; rfl)); refine X9y ?_; intro HL2; refine X9z ?_; clear hK K; clear HL hb hf; have HL := HL2; have hb := hb2; have hf := hf2; clear HL2 hb2 hf2; refine Xe ?_; intro K hK; refine xbg (xbc xcd _ _ rfl g n c m .i64 rfl rfl (by omega)) ?_; refine X3x ?_; clear hK K; intro K hK; refine xbs ag222.i _ _ rfl g (m * 34) 222 _ _ rfl rfl hb (Wrt.len _) hml (Wrt.one _) ?_; intro w2 hb2 hg2 _; rw [HS2] at hb2; have hf2 := hf.grown hg2 (fun k hk => .inl (by cases hk; rfl)); refine X9y ?_; intro HL2
              refine X9z ?_; clear hK K; clear HL hb hf; have HL := HL2; have hb := hb2; have hf := hf2; clear HL2 hb2 hf2; refine X9 ?_; go_upto_region 5 with fail; refine Xa0 ?_; refine X19 ?_; go_wp2_with fail; go_roundw
              case rel => exact ⟨m, A1, y :: B, rfl, hm, by simp at hAB ⊢; omega, (xn5 A1 (B ++ CC) x y).trans hp, by simpa using hs, (fun u hu => by
                rcases List.mem_cons.1 hu with rfl | hu
                · exact hxy
                · exact hB u hu), hb, hf⟩
              case measure => simp [intOf] <;> omega
          · have k15 : decide (cz < 0) = false := by
              rw [← hcz]; unfold cmpZ; rw [if_neg hxy]; split <;> rfl
            have HTK : Hid (Srt Wrt.ky ((A1 ++ y :: x :: (B ++ CC)).take (i + 1))) := hZ (by
              have h9 := xn4 (A1 ++ [y]) B CC x Wrt.ky i (by simpa using hAB) hs hB (srt_last (hs.sublist (List.sublist_append_left _ _)) (Nat.le_of_not_lt hxy))
              simpa using h9)
            clear hb hf; go_upto_region 4 with fail; refine X9m ?_; refine X3u ?_; intro HL; refine X9p ?_; refine X9q ?_; refine X5 ?_; refine X9r ?_; refine X6s ?_; refine X9s ?_; refine X5 ?_; refine X9t ?_; refine X5 ?_; refine X9u ?_; refine Xf ?_; intro K hK; refine xn1 cf230 rfl rfl _ rfl ?_; refine X1y ?_; (with_reducible refine (CB _).out.mono ?_); rintro e w ⟨rfl, hb2⟩; replace HL := HL.next hb2; clear hb2; refine X58 ?_; clear hK K; refine xab rfl rfl HL (fun W hW => xbm (b := false) _ _ rfl _ _ rfl rfl k15) ?_; refine X3k ?_; go_upto_region 2 with fail; refine X9o ?_; go_wp2_with fail; go_roundw
            case rel => exact ⟨i + 1, A1 ++ y :: x :: (B ++ CC), by omega, by omega, rfl, hp, HTK.out, HL.blk (.head _), HL.frS⟩
            case measure => simp [intOf] <;> omega
    · have k14 : decide ((i : Int) < (n : Int)) = false := by simp; omega
      go_upto_region 1 with fail; refine X18 ?_; refine X9l ?_; refine X21 ?_; go_wp2_with fail
      go_end0
      exact ⟨rfl, ys, hp, by rwa [List.take_of_length_le (by omega)] at hs, HL.blk (.head _), HL.frS⟩
theorem pdq_w (g n c : Nat) (ws : List Wrt) (sp : List Value) (w : World) (hb : Blk w g 222 (ws.flatMap Wrt.cells ++ sp)) (hn : ws.length = n) (hc : n ≤ c) (h12 : n ≤ 12) (r : Int) :
    Calls Tryz.prog 248 #[.slice (some ⟨g, 0, none⟩) n c, .int .i64 0, .int .i64 (n : Int), .int .i64 r, .func (.func 230) #[] #[]] w fun e w' => e = .returned (.tuple #[]) ∧ ∃ ws', ws'.Perm ws ∧ Srt Wrt.ky ws' ∧ Blk w' g 222 (ws'.flatMap Wrt.cells ++ sp) ∧ Fr (· = g) w w' := by
  have C := hZ (ins_w g n c ws sp w hb hn hc (by omega)); clear hb hn; have H0 : Hid ((n : Int) - 0 = (n : Int)) := hZ (by omega); have k1 : decide ((n : Int) ≤ 12) = true := by simp; omega
  have HL := Loc.start w; obtain ⟨w0, rfl⟩ := eW w; go_enter Tryz.func248, Tryz.ntmps248; go_upto_region 0 with fail; refine X1j ?_; go_upto_region 1 with fail; refine X1j ?_; go_wp2_with fail; refine wp_loop_rounds 1 ?_; rw [rounds_succ]; go_upto_region 2 with fail; refine Xa1 ?_; refine X19 ?_; go_upto_region 3 with fail; refine X11 ?_; refine xaa rfl _ (xcq (b := true) _ _ rfl _ _ rfl rfl k1) ?_; refine X21 ?_; go_upto_region 4 with fail; refine X8c ?_; intro K hK; refine xac cf252 rfl _ rfl ?_; refine X1y ?_; (with_reducible refine (C.out).mono ?_); rintro e w ⟨rfl, ws', h1, h2, h3, h4⟩; clear HL; refine X22 ?_; clear hK K; go_wp2_with fail; refine bodyPost_ret (results_none rfl _ _ _) rfl ?_; exact ⟨rfl, ws', h1, h2, h3, h4⟩
theorem sort_w (g n c : Nat) (ws : List Wrt) (sp : List Value) (w : World) (hb : Blk w g 222 (ws.flatMap Wrt.cells ++ sp)) (hn : ws.length = n) (hc : n ≤ c) (h12 : n ≤ 12) :
    Calls Tryz.prog 229 #[.slice (some ⟨g, 0, none⟩) n c, .func (.func 230) #[] #[]] w fun e w' => e = .returned (.tuple #[]) ∧ ∃ ws', ws'.Perm ws ∧ Srt Wrt.ky ws' ∧ Blk w' g 222 (ws'.flatMap Wrt.cells ++ sp) ∧ Fr (· = g) w w' := by
  have C := fun r => hZ (pdq_w g n c ws sp w hb hn hc h12 r)
  clear hb hn; have HL := Loc.start w; obtain ⟨w0, rfl⟩ := eW w; have HB := hZ (xn0 (n : Int) w0 (by omega) (by omega)); have hcv : IntKind.u64.wrap (n : Int) = (n : Int) := by rw [IntKind.wrap_u64]; omega
  go_enter Tryz.func229, Tryz.ntmps229; go_upto_region 0 with fail; refine Xa2 ?_; refine X19 ?_; go_upto_region 1 with fail; refine X6m ?_; refine xaa rfl _ (xd7 (k' := .u64) Tryz.underlying3 Tryz.underlying181 _ rfl .i64 (n : Int) (n : Int) rfl rfl hcv) ?_; refine X4z ?_; intro K hK; refine xac cf135 rfl _ rfl ?_; refine X1y ?_; (with_reducible refine (HB.out).mono ?_); rintro e w ⟨r, rfl, rfl⟩; refine X20 ?_; clear hK K; refine X42 ?_; intro K hK; refine xac cf248 rfl _ rfl ?_; refine X1y ?_; (with_reducible refine ((C r).out).mono ?_); rintro e w ⟨rfl, ws', h1, h2, h3, h4⟩; clear HL; refine X22 ?_; clear hK K; go_wp2_with fail
  go_end0
  exact ⟨rfl, ws', h1, h2, h3, h4⟩
end
end Go.Proofs.YtkjjdgnkelchfaaGreat
