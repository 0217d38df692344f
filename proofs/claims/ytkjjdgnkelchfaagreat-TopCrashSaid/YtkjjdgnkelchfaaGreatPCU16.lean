import Derived.Test.YtkjjdgnkelchfaaGreatPCU15
set_option linter.unusedSimpArgs false
set_option linter.unusedVariables false
set_option maxRecDepth 100000
set_option maxHeartbeats 16000000
namespace Go.Proofs.YtkjjdgnkelchfaaGreat
open Go Go.RowKit
theorem keys_ok (w : World) (A : Option Addr) (n c : Nat) (es : List WE) (h : WriT (fun _ => False) w A n c (es.map Prod.fst) (es.map Prod.snd)) (hn : n ≤ 12) :
    Calls Tryz.prog 223 #[.slice A n c] w fun e w' => ∃ m : Nat, e = .returned (.int .i64 (m : Int)) ∧ m ≤ n ∧ Below w.heap.size w w' := by
  have hel : es.length = n := by have := h.s.len; simpa using this
  have CL := hZ (xmm (fun _ => False) w A n c es h hn (fun k f => f.elim)); clear h; have HL := Loc.start w; obtain ⟨w0, rfl⟩ := eW w; go_enter Tryz.func223, Tryz.ntmps223; go_upto_region 0 with fail; refine X1j ?_; go_upto_region 1 with fail; refine X1x ?_; intro K hK; refine xac cf187 rfl _ rfl ?_; refine X1y ?_; (with_reducible refine (CL.out).mono ?_); rintro e w ⟨v, es3, rfl, hW3, _, _, hl, hb, _⟩; have HN : Hid (v.n = es3.length) := hZ (by have := hW3.s.len; simpa using this.symm); clear hW3; replace HL := HL.next hb; clear hb; refine X5i ?_; clear hK K; refine xaa rfl _ (xav Tryz.underlying220 _ rfl v es3.length rfl HN.out) ?_; refine X19 ?_; go_wp2_with fail; go_ret; exact ⟨es3.length, rfl, by omega, HL.below⟩
def xcz (es : List WE) : Bool := es.any fun e => !e.1.gone && decide (1024 < e.2.length)
theorem longV_no {es : List WE} : xcz es = false ↔ ∀ e ∈ es, e.1.gone = false → e.2.length ≤ 1024 := by
  unfold xcz; rw [List.any_eq_false]; constructor
  · intro h e he hg
    have := h e he; simpa [hg] using this
  · intro h e he
    cases hg : e.1.gone with
    | true => simp
    | false => simpa [hg] using h e he hg
def xgn (es : List WE) : Int := if xcz es then 4 else 0
theorem xsw {es : List WE} {e : WE} (he : e ∈ es) (hg : e.1.gone = false) (hl : 1024 < e.2.length) : xcz es = true :=
  List.any_eq_true.2 ⟨e, he, by simp [hg, hl]⟩
section
variable {D : Nat → Prop} {w w' : World} {gs g : Nat} {σ : Sb} {vs vf : Sv}
theorem wrong_ok (h : StP D w gs g σ vs vf) (root : Int) (A : Option Addr) (n c : Nat) (es : List WE) (hW : WriT (fun _ => False) w A n c (es.map Prod.fst) (es.map Prod.snd)) (hn : n ≤ 11)
    (hat : ∀ u, StP D u gs g σ vs vf → Calls Tryz.prog 143 #[.pointer (some ⟨gs, 0, none⟩), .int .i64 root] u fun e w' => e = .returned (.int .i64 0) ∧ Below u.heap.size u w') (hr : 1 ≤ σ.room ∧ σ.room ≤ 65536) (hfit : σ.used + 258 * n ≤ σ.room) :
    Calls Tryz.prog 185 #[.pointer (some ⟨gs, 0, none⟩), .int .i64 root, .slice A n c] w fun e w' => e = .returned (.int .i64 (xgn es)) ∧ Below w.heap.size w w' := by
  have hel : es.length = n := by have := hW.s.len; simpa using this
  have HH := hZ h; have HW := hZ hW; have HAT := hZ hat; have HEL := hZ hel; have HFT : Hid (∀ m : Nat, m ≤ n → m ≤ 64 ∧ σ.used ≤ 65536 ∧ decide ((σ.used : Int) + 258 * (m : Int) ≤ (σ.room : Int)) = true) := hZ (fun m hm => ⟨by omega, by omega, by simp; omega⟩); have HRM := hZ hr; have k3 : decide ((n : Int) > 64) = false := by simp; omega
  clear h hW hat hel hr hfit; have HL := Loc.start w; obtain ⟨w0, rfl⟩ := eW w; go_enter Tryz.func185, Tryz.ntmps185; go_upto_region 0 with fail; refine X1j ?_; go_upto_region 1 with fail; refine X1x ?_; intro K hK; refine X7h ?_; refine X1y ?_; (with_reducible refine (xhc (HH.out.sw.below HL.below)).mono ?_); rintro e w ⟨rfl, rfl⟩; refine X5i ?_; clear hK K; refine Xck ?_; go_upto_region 3 with fail; refine Xa2 ?_; refine X5 ?_; refine xaa rfl _ (xch (b := false) _ _ rfl _ _ rfl rfl k3) ?_; refine X21 ?_; go_upto_region 5 with fail; refine Xa2 ?_; refine X1e ?_; go_wp2_with fail
  go_loopw [18] (fun z wr => ∃ i : Nat, i ≤ n ∧ z = .int .i64 (i : Int) ∧ xcz (es.take i) = false ∧ Loc w0 (Old w0) [] wr) (fun z _ => (n - intOf z).toNat)
  case atStart => exact ⟨0, Nat.zero_le _, rfl, rfl, HL⟩
  case round => as_aux_lemma =>
    clear HL; obtain ⟨i, hi, rfl, hlo, HL⟩ := hrel; obtain ⟨w, rfl⟩ := eW wr; by_cases hlt : i < n
    · have k6 : decide ((i : Int) < (n : Int)) = true := by simp; omega
      refine X9a ?_; intro HI; have hil : i < es.length := by rw [HEL.out]; exact hlt
      have hil2 : i < (es.map Prod.fst).length := by simpa using hil
      obtain ⟨ad, hA, hrd0⟩ := HW.out.s.at_ i hil2; rw [List.getElem_map] at hrd0; refine X9b ?_; intro HSV; have HRD : ∀ (L : List (Nat × Nat × List Value)) (W : World), Loc w0 (Old w0) L W → Hid (Rd W (some (ad.add (i * 34))) es[i].1.cells) := fun L W hW => hZ (hrd0.below hW.below)
      have htx0 := HW.out.tx i hil2; simp only [List.getElem_map, List.getD_eq_getElem?_getD, List.getElem?_map, List.getElem?_eq_getElem hil, Option.map_some, qe] at htx0; have HTX : Hid (es[i].2.length = es[i].1.val.n) := hZ htx0.len
      have HTK : Hid (xcz (es.take (i + 1)) = (xcz (es.take i) || (!es[i].1.gone && decide (1024 < es[i].2.length)))) := hZ (by
        unfold xcz; rw [List.take_succ_eq_append_getElem hil, List.any_append]
        simp only [List.any_cons, List.any_nil, Bool.or_false])
      have HME := hZ (List.getElem_mem hil); have HLO := hZ hlo; clear hA hrd0 hil2 htx0 hlo; obtain ⟨⟨x, lx⟩, hx⟩ : ∃ x, es[i] = x := ⟨_, rfl⟩; rw [hx] at HRD HTX HTK HME; clear hx; go_upto_region 6 with fail; refine Xs ?_; refine Xcl ?_; refine X21 ?_; go_upto_region 7 with fail; refine Xs ?_; refine xaa rfl _ (xbf xcd (.tmp 16) _ rfl ad n c i .i64 HSV.out rfl hlt) ?_; refine X5 ?_; refine Xa4 ?_; refine X5 ?_; refine xai zr222 rfl rfl HL ?_; clear HL; intro g8 w HL; refine X5 ?_; refine Xa5 ?_; refine X35 ?_; clear HL; intro w HL
      cases hg : x.gone with
      | true =>
        refine Xa6 ?_; intro HGO; have HNX : Hid (xcz (es.take (i + 1)) = false) := hZ (by rw [HTK.out, HLO.out]; simp [hg]); clear hg; go_upto_region 8 with fail; refine Xa7 ?_; refine Xa8 ?_; refine X2d ?_; refine no_implicit_lambda% (X2g ?_); refine X29 ?_; have HLd := HL.drop [] (List.nil_sublist _); clear HL; have HL := HLd; clear HLd; go_upto_region 10 with fail; refine Xaf ?_; go_wp2_with fail; go_roundw
        case rel => exact ⟨i + 1, by omega, rfl, HNX.out, HL⟩
        case measure => simp [intOf] <;> omega
      | false =>
        refine Xan ?_; intro HGO; have HVN : Hid (x.val.n = lx.length) := hZ HTX.out.symm; by_cases hbig : 1024 < lx.length
        · have k8 : decide ((lx.length : Int) > 1024) = true := by simp; omega
          have HBAD : Hid (xcz es = true) := hZ (xsw HME.out hg hbig); clear hg hbig; go_upto_region 8 with fail; refine Xa7 ?_; refine Xao ?_; refine X2d ?_; refine xad rfl _ (xaf xg9 _ rfl _ rfl) ?_; refine X5 ?_; refine Xcm ?_; refine X5 ?_; refine xad rfl _ (xch (b := true) _ _ rfl _ _ rfl rfl k8) ?_; refine X2a ?_; go_upto_region 9 with fail; refine X1j ?_; go_wp2_with fail; go_ret; have hE : xgn es = 4 := by unfold xgn; rw [HBAD.out]; rfl
          exact ⟨by rw [hE]; rfl, HL.below⟩
        · have k8 : decide ((lx.length : Int) > 1024) = false := by simp; omega
          have HNX : Hid (xcz (es.take (i + 1)) = false) := hZ (by rw [HTK.out, HLO.out]; simp [hg]; omega); clear hg hbig; go_upto_region 8 with fail; refine Xa7 ?_; refine Xao ?_; refine X2d ?_; refine xad rfl _ (xaf xg9 _ rfl _ rfl) ?_; refine X5 ?_; refine Xcm ?_; refine X5 ?_; refine xad rfl _ (xch (b := false) _ _ rfl _ _ rfl rfl k8) ?_; refine X2a ?_; have HLd := HL.drop [] (List.nil_sublist _); clear HL; have HL := HLd; clear HLd; go_upto_region 10 with fail; refine Xaf ?_; go_wp2_with fail; go_roundw
          case rel => exact ⟨i + 1, by omega, rfl, HNX.out, HL⟩
          case measure => simp [intOf] <;> omega
    · have k6 : decide ((i : Int) < (n : Int)) = false := by simp; omega
      have HOKL : Hid (xcz es = false) := hZ (by
        have hin : i = n := by omega
        rw [hin, List.take_of_length_le (by rw [HEL.out]; omega)] at hlo
        exact hlo)
      clear hlo; go_upto_region 6 with fail; refine Xs ?_; refine Xcl ?_; refine X21 ?_; go_upto_region 11 with fail; refine X2k ?_; intro K hK; refine xac cf143 rfl _ rfl ?_; refine X1y ?_; (with_reducible refine (HAT.out _ (HH.out.below HL.below)).mono ?_); refine X7i ?_; clear hK K; intro w HL; go_upto_region 12 with fail; refine Xcn ?_; go_upto_region 14 with fail; refine X2k ?_; intro K hK; refine xac cf223 rfl _ rfl ?_; refine X1y ?_; (with_reducible refine (keys_ok _ A n c es ((HW.out.step (Stp.of_below HL.below)).free) (by omega)).mono ?_); rintro e w ⟨m, rfl, hm, hb⟩; replace HL := HL.next hb; clear hb; refine X20 ?_; clear hK K; refine X4z ?_; intro K hK; refine xac cf144 rfl _ rfl ?_; refine X1y ?_; (with_reducible refine (xqy (HH.out.sw.below HL.below) HRM.out m (HFT.out m hm).1 (HFT.out m hm).2.1 true (HFT.out m hm).2.2).mono ?_); rintro e w ⟨rfl, rfl⟩
      refine X20 ?_; clear hK K; refine X2a ?_; go_upto_region 16 with fail; refine X1j ?_; go_wp2_with fail; go_ret; have hE : xgn es = 0 := by unfold xgn; rw [HOKL.out]; rfl
      exact ⟨by rw [hE]; rfl, HL.below⟩
end
structure SpA (told : Tre) (es : List WE) (t : Tre) : Prop where
  ok : t.Ok 0
  sp : ∀ k v, (k, v) ∈ t.ents ↔ (xce (es.map pw) k = some (some v) ∨ (xce (es.map pw) k = none ∧ (k, v) ∈ told.ents))
  sz : t.size ≤ told.size + es.length
theorem SpB.all {told t : Tre} {es es3 : List WE} (h : SpB 0 told es3 t) (hr : xfh es3) (hs : ∀ k o, (k, o) ∈ es3.map pw ↔ xce (es.map pw) k = some o) (hl : es3.length ≤ es.length) : SpA told es t := by
  refine ⟨h.ok, fun k v => ?_, by have := h.sz; omega⟩; rw [h.sp, hs]
  have hk : k ∉ xa2 es3 ↔ xce (es.map pw) k = none := by
    rw [← xc4]; constructor
    · intro hn
      cases hq : xce (es.map pw) k with
      | none => rfl
      | some o => exact absurd (List.mem_map.2 ⟨_, (hs k o).2 hq, rfl⟩) hn
    · intro hn hm
      obtain ⟨⟨k', o⟩, h1, h2⟩ := List.mem_map.1 hm; have h2 : k' = k := h2; subst h2; have := (hs k' o).1 h1; rw [hn] at this; cases this
  rw [hk]
theorem alk0 (ks : List D32) : Alike 0 ks := fun k _ k' _ x hx => absurd hx (Nat.not_lt_zero _)
def ApplyO (D : Nat → Prop) (w : World) (gs g : Nat) (σ : Sb) (R : List Int) (told : Tre) (es : List WE) (c : Nat) (e : Ending) (w' : World) : Prop :=
  (xcz es = true ∧ e = .returned (.tuple #[.int .i64 0, .int .i64 4]) ∧ Below w.heap.size w w') ∨
  (xcz es = false ∧ ∃ (t : Tre) (z : Int) (D' : Nat → Prop) (vs' vf' : Sv) (σ' : Sb), e = .returned (.tuple #[.int .i64 z, .int .i64 0]) ∧ StP D' w' gs g σ' vs' vf' ∧ Stp D w D' w' ∧ σ'.Inv (if z = 0 then R else z :: R) [] ∧ σ.Keeps R σ' ∧ IsT σ' z 0 t ∧ σ'.room = σ.room ∧ σ'.used ≤ σ.used + c ∧ SpA told es t)
theorem root_at {σ : Sb} {R : List Int} {root : Int} {told : Tre} {D : Nat → Prop} {gs g : Nat} {vs vf : Sv} (hI : σ.Inv (if root = 0 then R else root :: R) []) (ht : IsT σ root 0 told) : ∀ u, StP D u gs g σ vs vf → Calls Tryz.prog 143 #[.pointer (some ⟨gs, 0, none⟩), .int .i64 root] u fun e w' => e = .returned (.int .i64 0) ∧ Below u.heap.size u w' := fun u hu => by
  by_cases h0 : root = 0
  · subst h0
    exact (xqz hu.sw).mono fun e w' h => ⟨h.1, by rw [← h.2]; exact Below.refl _ _⟩
  · rw [if_neg h0] at hI
    obtain ⟨i, hi, hz, hc, _, _, hk, hd, _⟩ := ht.nz h0; refine athand hu.sw root σ.slots[i].nd σ.slots[i].val (.inl ⟨rfl, i, hz, hi, rfl, rfl, hc⟩) ?_ ?_
    · cases hin : told.isIn with
      | false => rw [hin] at hk; exact .inl hk
      | true => rw [hin] at hk; exact .inr ⟨hk, by simpa using hd hin⟩
    · rw [hI.held i hi, ← hz, List.count_cons]
      simp; omega
theorem apply_ok (D : Nat → Prop) (w : World) (gs g : Nat) (σ : Sb) (vs vf : Sv) (R : List Int) (root : Int) (told : Tre) (A : Option Addr) (n c : Nat) (es : List WE) (h : StP D w gs g σ vs vf) (hI : σ.Inv (if root = 0 then R else root :: R) []) (ht : IsT σ root 0 told) (hok : told.Ok 0)
    (hW : WriT D w A n c (es.map Prod.fst) (es.map Prod.snd)) (hn : n ≤ 11) (hRl : R.length ≤ 400000000) (hts : told.size ≤ 400000) (hr : 1 ≤ σ.room ∧ σ.room ≤ 65536) (hfit : σ.used + 258 * n ≤ σ.room) :
    Calls Tryz.prog 127 #[.pointer (some ⟨gs, 0, none⟩), .int .i64 root, .slice A n c] w (ApplyO D w gs g σ R told es (257 * n)) := by
  have HH := hZ h; have HI := hZ hI; have HT := hZ ht; have HOK := hZ hok; have HW := hZ hW; have HRL := hZ hRl; have HTS := hZ hts; have HFT := hZ hfit
  have HLVR : Hid (root = 0 ∨ σ.Live (if root = 0 then R else root :: R) root) := hZ (by
    by_cases h0 : root = 0
    · exact .inl h0
    · exact .inr (.root _ (by rw [if_neg h0]; simp)))
  have CW : Hid (Calls Tryz.prog 185 #[.pointer (some ⟨gs, 0, none⟩), .int .i64 root, .slice A n c] w fun e w' => e = .returned (.int .i64 (xgn es)) ∧ Below w.heap.size w w') := hZ (wrong_ok h root A n c es hW.free hn (root_at hI ht) hr hfit); clear h hI ht hok hW hRl hts hr hfit; have HL := Loc.start w; obtain ⟨w0, rfl⟩ := eW w
  cases hlong : xcz es with
  | true =>
    rw [show xgn es = 4 by unfold xgn; rw [hlong]; rfl] at CW; have HLG := hZ hlong; clear hlong; go_enter Tryz.func127, Tryz.ntmps127; go_upto_region 0 with fail; refine X2z ?_; go_upto_region 1 with fail; refine X6m ?_; refine X1w ?_; intro K hK; refine xac cf185 rfl _ rfl ?_; refine Xco ?_; refine X7i ?_; clear hK K; intro w HL; go_upto_region 2 with fail; refine Xcp ?_; refine X21 ?_; go_upto_region 3 with fail; refine X3r ?_; go_wp2_with fail; go_ret2; exact .inl ⟨HLG.out, rfl, HL.below⟩
  | false =>
    rw [show xgn es = 0 by unfold xgn; rw [hlong]; rfl] at CW; have HLG := hZ hlong; clear hlong; go_enter Tryz.func127, Tryz.ntmps127; go_upto_region 0 with fail; refine X2z ?_; go_upto_region 1 with fail; refine X6m ?_; refine X1w ?_; intro K hK; refine xac cf185 rfl _ rfl ?_; refine Xco ?_; refine X7i ?_; clear hK K; intro w HL; go_upto_region 2 with fail; refine Xcn ?_; go_upto_region 4 with fail; refine X6m ?_; refine X1w ?_; intro K hK; refine xac cf187 rfl _ rfl ?_; refine X1y ?_; (with_reducible refine (xmm D _ A n c es (HW.out.step (Stp.of_below HL.below)) (by omega) (HH.out.below HL.below).sb.lt).mono ?_); rintro e w ⟨v, es3, rfl, hW3, hR3, hS3, hl3, hb3, hf3⟩; have HW3 := hZ hW3; have HR3 := hZ hR3; have HS3 := hZ hS3; have hel : es.length = n := by have := HW.out.s.len; simpa using this
    have hel3 : es3.length = v.n := by have := hW3.s.len; simpa using this
    have HL3 := hZ (And.intro hl3 (show v.n ≤ n by omega))
    have HV3 : Hid (∀ e ∈ es3, e.1.gone = false → e.2.length ≤ 1024) := hZ (fun e he hg => by
      have h1 : pw e ∈ es3.map pw := List.mem_map_of_mem he; have h2 : pw e = (e.1.key, some e.2) := by unfold pw; rw [hg]; rfl
      rw [h2, hS3] at h1; obtain ⟨e1, h3, h4⟩ := List.mem_map.1 (xh8 _ h1); unfold pw at h4; injection h4 with _ h5
      split at h5
      · cases h5
      · next hg1 =>
        injection h5 with h5; rw [← h5]
        exact longV_no.1 HLG.out e1 h3 (by simpa using hg1))
    replace HL := HL.next hb3
    have CB : Hid (Calls Tryz.prog 186 #[.pointer (some ⟨gs, 0, none⟩), .int .i64 root, .int .i64 0, v.v] w (xib D w gs g σ (if root = 0 then R else root :: R) 0 told es3 ((256 + 1) * v.n))) := hZ ((xlf 256).run 0 rfl D _ gs g σ vs vf (if root = 0 then R else root :: R) root told v.A v.n v.c es3 (HH.out.below HL.below) HI.out HT.out (by
        by_cases h0 : root = 0
        · exact .inl h0
        · exact .inr (.root _ (by rw [if_neg h0]; simp))) HOK.out HW3.out HR3.out (alk0 _) HV3.out (by have := HRL.out; have := xff R root; omega) (by have := HL3.out.2; omega) (by have := HTS.out; omega) (by have h1 := HL3.out.2; have h2 := HFT.out; have h3 := Nat.mul_le_mul_left 257 h1; omega))
    clear hW3 hR3 hS3 hl3 hb3 hf3 hel hel3; refine X20 ?_; clear hK K; refine X4z ?_; intro K hK; refine xac cf186 rfl _ rfl ?_; refine X1y ?_; (with_reducible refine (CB.out).mono ?_); rintro e w ⟨t, z, D2, vs2, vf2, σ2, rfl, hP2, hS2, hI2, hK2, hT2, hr2, hu2, hsp2⟩; have HP2 := hZ hP2; have HS2 := hZ ((Stp.of_below HL.below).trans hS2); have HI2 := hZ hI2; have HK2 := hZ hK2; have HT2 := hZ hT2; have HU2 : Hid (σ2.room = σ.room ∧ σ2.used ≤ σ.used + 257 * n) := hZ ⟨hr2, by have h1 := HL3.out.2; have h3 := Nat.mul_le_mul_left 257 h1; omega⟩; have HSP := hZ (hsp2.all HR3.out HS3.out HL3.out.1); clear hP2 hS2 hI2 hK2 hT2 hr2 hu2 hsp2 HL; refine X2n ?_; clear hK K; by_cases h0 : root = 0
    · have k5 : (root == 0) = true := by simpa using h0
      have HI4 : Hid (σ2.Inv (if z = 0 then R else z :: R) []) := hZ (by have := HI2.out; rw [if_pos h0] at this; exact this); have HK4 : Hid (σ.Keeps R σ2) := hZ (by have := HK2.out; rw [if_pos h0] at this; exact this); clear h0; go_upto_region 5 with fail; refine X11 ?_; refine xaa rfl _ (xa4 (b := false) _ _ rfl _ _ rfl rfl k5) ?_; refine X21 ?_; go_upto_region 7 with fail; refine X3r ?_; go_wp2_with fail; go_ret2; exact .inr ⟨HLG.out, t, z, D2, vs2, vf2, σ2, rfl, HP2.out, HS2.out, HI4.out, HK4.out, HT2.out, HU2.out.1, HU2.out.2, HSP.out⟩
    · have k5 : (root == 0) = false := by simpa using h0
      have HI4 : Hid (σ2.Inv (if z = 0 then root :: R else z :: root :: R) []) := hZ (by have := HI2.out; rw [if_neg h0] at this; exact this); have HK4 : Hid (σ.Keeps (root :: R) σ2) := hZ (by have := HK2.out; rw [if_neg h0] at this; exact this)
      have hT3 := HT.out.keep HK4.out HI4.out (fun y hy => by
        split
        · exact hy
        · exact List.mem_cons_of_mem _ hy) (.inr (.root _ (by simp)))
      obtain ⟨i, hi, hzi, _⟩ := hT3.nz h0
      have HC : Hid (∀ y, (if z = 0 then root :: R else z :: root :: R).count y = (if z = 0 then R else z :: R).count y + if y = (i : Int) + 1 then 1 else 0) := hZ (by
        intro y; rw [← hzi]
        split <;> simp only [List.count_cons, xer] <;> omega)
      have HLN : Hid ((if z = 0 then root :: R else z :: root :: R).length ≤ 1073741824 ∧ (if z = 0 then R else z :: R).length ≤ 1073741824) := hZ (by
        have := HRL.out
        split <;> simp only [qr] <;> omega)
      clear h0 hT3; go_upto_region 5 with fail; refine X11 ?_; refine xaa rfl _ (xa4 (b := true) _ _ rfl _ _ rfl rfl k5) ?_; refine X21 ?_; go_upto_region 6 with fail; refine X2k ?_; intro K hK; refine X8m ?_; (with_reducible refine (xf8 HP2.out _ (if z = 0 then R else z :: R) HI4.out root i hzi hi HC.out HLN.out.1 HLN.out.2).mono ?_); rintro e w ⟨m, D3, vs3, vf3, σ3, rfl, hP3, hS3, hI3, hK3, hu3, hr3, _⟩; have HP3 := hZ hP3; have HS3 := hZ (HS2.out.trans hS3); have HI3 := hZ hI3
      have HK3 : Hid (σ.Keeps R σ3) := hZ ((HK4.out.less (fun y hy => List.mem_cons_of_mem _ hy)).trans hK3 (fun j hj hl => (HK4.out.less (R2 := R) (fun y hy => List.mem_cons_of_mem _ hy)).live (fun y hy => by
        split
        · exact hy
        · exact List.mem_cons_of_mem _ hy) hl))
      have HT3 : Hid (IsT σ3 z 0 t) := hZ (HT2.out.keep hK3 hI3 (fun y hy => hy) (by
        by_cases hz : z = 0
        · exact .inl hz
        · exact .inr (.root _ (by rw [if_neg hz]; simp))))
      have HU3 : Hid (σ3.room = σ.room ∧ σ3.used ≤ σ.used + 257 * n) := hZ ⟨by rw [hr3]; exact HU2.out.1, by have := HU2.out.2; omega⟩; clear hP3 hS3 hI3 hK3 hu3 hr3; refine X22 ?_; clear hK K; go_upto_region 7 with fail; refine X3r ?_; go_wp2_with fail; go_ret2; exact .inr ⟨HLG.out, t, z, D3, vs3, vf3, σ3, rfl, HP3.out, HS3.out, HI3.out, HK3.out, HT3.out, HU3.out.1, HU3.out.2, HSP.out⟩
section
variable {D : Nat → Prop} {w w' : World} {gd gs g : Nat} {σ : Sb} {vs vf : Sv} {nm : Value} {root : Int}
theorem count_ok (h : StW D w gs σ) (z : Int) (n : Nd) (val : List UInt8) (ok : Bool) (hG : Got σ z n val ok)
    (hroot : ∀ u, StW D u gs σ → Calls Tryz.prog 154 #[.pointer (some ⟨gs, 0, none⟩), .int .i64 z] u fun e w' => e = .returned (.int .i64 0) ∧ Below u.heap.size u w') :
    Calls Tryz.prog 94 #[.pointer (some ⟨gs, 0, none⟩), .int .i64 z] w fun e w' => e = .returned (.tuple #[.int .i64 n.size, .int .i64 0]) ∧ Below w.heap.size w w' := by
  have HH := hZ h; have HR := hZ hroot; clear h hroot; have HL := Loc.start w; obtain ⟨w0, rfl⟩ := eW w; go_enter Tryz.func94, Tryz.ntmps94; go_upto_region 0 with fail; refine X2z ?_; go_upto_region 1 with fail; refine X2k ?_; intro K hK; refine X7h ?_; refine X1y ?_; (with_reducible refine (HR.out _ (HH.out.below HL.below)).mono ?_); refine X7i ?_; clear hK K; intro w HL; go_upto_region 2 with fail; refine X2o ?_; go_upto_region 4 with fail; refine X2k ?_; intro K hK; refine xac cf155 rfl _ rfl ?_; refine X1y ?_; (with_reducible refine (st_size (HH.out.below HL.below) z n val ok hG).mono ?_); refine X4x ?_; clear hK K; intro w HL; refine X1f ?_; go_wp2_with fail; go_ret2; exact ⟨rfl, HL.below⟩
theorem xhi (h : DcP D w gd gs g σ vs vf nm root) : Calls Tryz.prog 95 #[.pointer (some ⟨gd, 0, none⟩)] w fun e w' => e = .returned (.bool false) ∧ w = w' := by
  have hc1 := h.c1; have HL := Loc.start w; clear h; go_enter Tryz.func95, Tryz.ntmps95; go_upto_region 0 with fail; refine X1j ?_; go_upto_region 1 with fail; refine X1q ?_; refine xad rfl _ (xaf xl4 _ rfl _ rfl) ?_; refine X5 ?_; refine xad rfl _ (xdb xns HL _ rfl _ rfl _ (by with_reducible assumption)) ?_; refine X5 ?_; refine X1v ?_; go_wp2_with fail; go_ret; exact ⟨rfl, rfl⟩
theorem dc_keyed (h : DcP D w gd gs g σ vs vf nm root) (A : Option Addr) (c : Nat) (key : D32) (hr : Rd w A (bvs key.l)) (hc : 32 ≤ c) : Calls Tryz.prog 89 #[.pointer (some ⟨gd, 0, none⟩), .slice A 32 c] w fun e w' => e = .returned (.tuple #[.agg key.c.toArray, .int .i64 0]) ∧ Below w.heap.size w w' := by
  have HH := hZ h; have HR := hZ hr; clear h hr; have HL := Loc.start w; obtain ⟨w0, rfl⟩ := eW w; go_enter Tryz.func89, Tryz.ntmps89; go_upto_region 0 with fail; refine Xs ?_; refine xai zr24 rfl rfl HL ?_; clear HL; intro g4 w HL; refine X19 ?_; go_upto_region 1 with fail; refine X1x ?_; intro K hK; refine Xcq ?_; (with_reducible refine (xhi (HH.out.below HL.below)).mono ?_); rintro e w ⟨rfl, rfl⟩; refine X22 ?_; clear hK K; go_upto_region 3 with fail; refine X1x ?_; intro K hK; refine Xcr ?_; (with_reducible refine (of_d _ A 32 c key (HL.rdO HR.out) rfl hc).mono ?_); refine X4x ?_; clear hK K; intro w HL; refine X48 ?_; refine X6o ?_; refine X4c ?_; clear HL; intro w HL; go_wp2_with fail; refine Xa ?_; refine bodyPost_ret (xby rfl ag24 _ _ g4 24 _ rfl (HL.blk (.head _)) (D32.cl _)) rfl ?_; exact ⟨rfl, HL.below⟩
theorem xsx (h : DcP D w gd gs g σ vs vf nm root) : Calls Tryz.prog 82 #[.pointer (some ⟨gd, 0, none⟩), .string ⟨#[]⟩] w fun e w' => e = .returned (.tuple #[.int .i64 root, .int .i64 0]) ∧ w = w' := by
  have HH := hZ h; have hc2 := h.c2; clear h; have HL := Loc.start w; go_enter Tryz.func82, Tryz.ntmps82; go_upto_region 0 with fail; refine X2z ?_; go_upto_region 1 with fail; refine X1x ?_; intro K hK; refine Xcq ?_; (with_reducible refine (xhi HH.out).mono ?_); rintro e w ⟨rfl, rfl⟩; refine X2n ?_; clear hK K; go_upto_region 3 with fail; refine X5d ?_; go_upto_region 4 with fail; refine X13 ?_; refine Xcs ?_; refine X5 ?_; refine X24 ?_; refine X1g ?_; go_wp2_with fail; go_ret2; exact ⟨rfl, rfl⟩
theorem xoh (h : DcP D w gd gs g σ vs vf nm root) : Calls Tryz.prog 39 #[.pointer (some ⟨gd, 0, none⟩)] w fun e w' => e = .returned (.int .i64 (σ.used : Int)) ∧ w = w' := by
  have HH := hZ h; have hc1 := h.c1; clear h; have HL := Loc.start w; go_enter Tryz.func39, Tryz.ntmps39; go_upto_region 0 with fail; refine X1j ?_; go_upto_region 1 with fail; refine X1x ?_; intro K hK; refine Xcq ?_; (with_reducible refine (xhi HH.out).mono ?_); rintro e w ⟨rfl, rfl⟩; refine X22 ?_; clear hK K; go_upto_region 3 with fail; refine X13 ?_; refine Xct ?_; refine X5 ?_; refine Xcu ?_; refine X4z ?_; intro K hK; refine xac cf96 rfl _ rfl ?_; refine X1y ?_; (with_reducible refine (xin HH.out.st.sw).mono ?_); rintro e w ⟨rfl, rfl⟩; refine X2n ?_; clear hK K; go_wp2_with fail; go_ret; exact ⟨rfl, rfl⟩
theorem dc_root (h : DcP D w gd gs g σ vs vf nm root) (n : Nd) (val : List UInt8) (hG : Got σ root n val true) : Calls Tryz.prog 29 #[.pointer (some ⟨gd, 0, none⟩), .string ⟨#[]⟩] w fun e w' => e = .returned (.tuple #[.agg n.dig.c.toArray, .int .i64 0]) ∧ Below w.heap.size w w' := by
  have HH := hZ h; have hc1 := h.c1; clear h; have HL := Loc.start w; obtain ⟨w0, rfl⟩ := eW w; go_enter Tryz.func29, Tryz.ntmps29; go_upto_region 0 with fail; refine Xs ?_; refine xai zr23 rfl rfl HL ?_; clear HL; intro g4 w HL; refine X19 ?_; go_upto_region 1 with fail; refine X2k ?_; intro K hK; refine Xcv ?_; refine Xcw ?_; rintro e w ⟨rfl, rfl⟩; refine X7d ?_; clear hK K; go_upto_region 2 with fail; refine X2o ?_; go_upto_region 4 with fail; refine X13 ?_; refine Xct ?_; refine X5 ?_; refine Xcu ?_; refine X42 ?_; intro K hK; refine X6y ?_; (with_reducible refine (xf4 (HH.out.st.sw.below HL.below) root n val hG).mono ?_); refine X4x ?_; clear hK K; intro w HL; refine X4y ?_; refine X4c ?_; clear HL; intro w HL; go_wp2_with fail; refine Xcx ?_; exact ⟨rfl, HL.below⟩
theorem dc_len (h : DcP D w gd gs g σ vs vf nm root) (n : Nd) (val : List UInt8) (ok : Bool) (hG : Got σ root n val ok)
    (hroot : ∀ u, StW D u gs σ → Calls Tryz.prog 154 #[.pointer (some ⟨gs, 0, none⟩), .int .i64 root] u fun e w' => e = .returned (.int .i64 0) ∧ Below u.heap.size u w') :
    Calls Tryz.prog 38 #[.pointer (some ⟨gd, 0, none⟩), .string ⟨#[]⟩] w fun e w' => e = .returned (.tuple #[.int .i64 n.size, .int .i64 0]) ∧ Below w.heap.size w w' := by
  have HH := hZ h; have HR := hZ hroot; have hc1 := h.c1; clear h hroot; have HL := Loc.start w; obtain ⟨w0, rfl⟩ := eW w; go_enter Tryz.func38, Tryz.ntmps38; go_upto_region 0 with fail; refine X2z ?_; go_upto_region 1 with fail; refine X2k ?_; intro K hK; refine Xcv ?_; refine Xcw ?_; rintro e w ⟨rfl, rfl⟩; refine X7d ?_; clear hK K; go_upto_region 2 with fail; refine X2o ?_; go_upto_region 4 with fail; refine X13 ?_; refine Xct ?_; refine X5 ?_; refine Xcu ?_; refine X42 ?_; intro K hK; refine xac cf94 rfl _ rfl ?_; refine X1y ?_; (with_reducible refine (count_ok (HH.out.st.sw.below HL.below) root n val ok hG HR.out).mono ?_); refine X4x ?_; clear hK K; intro w HL; refine X48 ?_; refine X1f ?_; go_wp2_with fail; go_ret2; exact ⟨rfl, HL.below⟩
def Puts (D : Nat → Prop) (u : World) (gs g : Nat) (h : Int) (σ' : Sv → Sb) (e : Ending) (w' : World) : Prop := ∃ D' vs' vf' x, e = .returned (.tuple #[.int .i64 h, .int .i64 0]) ∧ StP D' w' gs g (σ' x) vs' vf' ∧ Stp D u D' w'
def DcPuts (D : Nat → Prop) (w : World) (gd gs g : Nat) (nm : Value) (h : Int) (σ' : Sv → Sb) (e : Ending) (w' : World) : Prop := ∃ D' vs' vf' x, e = .returned (.int .i64 0) ∧ DcP D' w' gd gs g (σ' x) vs' vf' nm h ∧ Stp (fun k => D k ∨ k = gd) w (fun k => D' k ∨ k = gd) w'
theorem dc_put (h : DcP D w gd gs g σ vs vf nm root) (A : Option Addr) (c : Nat) (key : D32) (hr : Rd w A (bvs key.l)) (hc : 32 ≤ c) (B : Option Addr) (m d : Nat) (z : Int) (σ' : Sv → Sb)
    (hP : ∀ u, Below w.heap.size w u → Calls Tryz.prog 90 #[.pointer (some ⟨gs, 0, none⟩), .int .i64 root, key.a, .slice B m d] u (Puts D u gs g z σ')) :
    Calls Tryz.prog 34 #[.pointer (some ⟨gd, 0, none⟩), .slice A 32 c, .slice B m d] w (DcPuts D w gd gs g nm z σ') := by
  have HH := hZ h; have HR := hZ hr; have HP := hZ hP; have hc1 := h.c1; have hc2 := h.c2; clear h hr hP; have HL := Loc.start w; obtain ⟨w0, rfl⟩ := eW w; go_enter Tryz.func34, Tryz.ntmps34; go_upto_region 0 with fail; refine X1j ?_; go_upto_region 1 with fail; refine X2k ?_; intro K hK; refine xac cf89 rfl _ rfl ?_; refine Xcy ?_; refine X4a ?_; clear hK K; intro w HL; refine xai zr24 rfl rfl HL ?_; clear HL; intro g7 w HL; refine X6p ?_; refine X4c ?_; clear HL; intro w HL; go_upto_region 2 with fail; refine X2o ?_; have hgd : Old w0 gd ∧ ¬ D gd := ⟨HH.out.blk.lt, HH.out.far⟩; refine X52 ?_; intro hB; have HA : (∀ k, D k → ¬ (Old w0 k ∧ ¬ D k)) ∧ ∀ y ∈ [(g7, 24, key.c)], ¬ D y.1 := ⟨fun k hk hd => hd.2 hk, fun y hy hk => (HL.own y hy).1 (HH.out.st.sb.lt _ hk)⟩; refine X8i ?_; intro HX; clear HL; have HL := HX; clear HX; go_upto_region 4 with fail
  refine rB (Loc.P HL) [] [10] [0, 1, 2, 3, 4, 5, 6, 7, 8, 9, 10, 11, 12, 13, 14, 15] 0 ?_; refine X3e ?_; intro HL; refine Xcz ?_; refine X5 ?_; refine Xd0 ?_; refine X3h ?_; refine Xd1 ?_; refine X5 ?_; refine Xd2 ?_; refine X5 ?_; refine X6u ?_; refine X3g ?_; refine Xe ?_; intro K hK; refine xac cf90 rfl _ rfl ?_; refine X1y ?_; (with_reducible refine (HP.out _ hB.drew).mono ?_); rintro e w ⟨D', vs', vf', x, rfl, hst, hs⟩; replace HL := HL.frame hs.fr (fun k hk hd => hd.2 hk) HA.2; refine X74 ?_; clear hK K; go_upto_region 5 with fail; refine X2o ?_; have hb2 : Blk w gd 166 [nm, .pointer (some ⟨gs, 0, none⟩), .int .i64 root] := HL.far hgd HH.out.blk; have hS : Stp D w0 D' w := (Stp.of_below hB.drew).trans hs
  have hfar : ¬ D' gd := fun hk => by
    rcases hS.new _ hk with h1 | h1
    · exact hgd.2 h1
    · have := hgd.1
      unfold Old at this; omega
  clear HL hs HA; have HL := (Loc.start w).adopt (fun k => k = gd) [(gd, 166, [nm, .pointer (some ⟨gs, 0, none⟩), .int .i64 root])] (by simp; exact hb2) (by simp); simp only [qn] at HL; obtain ⟨w2, rfl⟩ := eW w; go_upto_region 6 with fail; refine X31 ?_; refine Xcs ?_; refine Xd3 ?_; refine X35 ?_; clear HL; intro w HL; go_upto_region 7 with fail; refine X7j ?_; go_wp2_with fail; go_ret; have hf := HL.frS; have hst2 : StP D' w gs g (σ' x) vs' vf' := hst.fr hf (fun k hk e => hfar (by rw [← e]; exact hk)); refine ⟨D', vs', vf', x, rfl, ⟨HL.blk (.head _), hst2, hfar⟩, ?_⟩; refine ⟨?_, ?_, ?_⟩
  · rintro k (hk | rfl)
    · rcases hS.new k hk with h1 | h1
      · exact .inl (.inl h1)
      · exact .inr h1
    · exact .inl (.inr rfl)
  · rintro k (hk | rfl)
    · exact .inl (hS.old k hk)
    · exact .inr rfl
  · refine ⟨hf.os.trans hS.fr.os, hf.tape.trans hS.fr.tape, hf.output.trans hS.fr.output, Nat.le_trans hS.fr.size hf.size, fun k hk hn => ?_⟩
    rw [hf.block k (Nat.lt_of_lt_of_le hk hS.fr.size) (fun e => hn (.inr e)), hS.fr.block k hk (fun e => hn (.inl e))]
theorem dc_get (h : DcP D w gd gs g σ vs vf nm root) (A : Option Addr) (c : Nat) (key : D32) (hr : Rd w A (bvs key.l)) (hc : 32 ≤ c) (val : List UInt8)
    (hF : ∀ u, StW D u gs σ → Calls Tryz.prog 93 #[.pointer (some ⟨gs, 0, none⟩), .int .i64 root, key.a] u fun e w' => ∃ v, e = .returned (.tuple #[v, .bool true, .int .i64 0]) ∧ OwnB w' u.heap.size 5 v val ∧ Below u.heap.size u w') :
    Calls Tryz.prog 37 #[.pointer (some ⟨gd, 0, none⟩), .string ⟨#[]⟩, .slice A 32 c] w fun e w' => ∃ v, e = .returned (.tuple #[v, .bool true, .int .i64 0]) ∧ OwnB w' w.heap.size 5 v val ∧ Below w.heap.size w w' := by
  have HH := hZ h; have HR := hZ hr; have HF := hZ hF; have hc1 := h.c1; clear h hr hF; have HL := Loc.start w; obtain ⟨w0, rfl⟩ := eW w; go_enter Tryz.func37, Tryz.ntmps37; go_upto_region 0 with fail; refine Xs ?_; refine X7g ?_; go_upto_region 1 with fail; refine X2k ?_; intro K hK; refine xac cf89 rfl _ rfl ?_; refine Xcy ?_; refine X4a ?_; clear hK K; intro w HL; refine xai zr24 rfl rfl HL ?_; clear HL; intro g9 w HL; refine X6p ?_; refine X4c ?_; clear HL; intro w HL; go_upto_region 2 with fail; refine X2o ?_; go_upto_region 4 with fail; refine X2k ?_; intro K hK; refine Xcv ?_; refine Xcw ?_; rintro e w ⟨rfl, rfl⟩; refine X7d ?_; clear hK K; go_upto_region 5 with fail; refine X2o ?_; have hgd : Old w0 gd := HH.out.blk.lt; go_upto_region 7 with fail; refine rB (Loc.P HL) [] [6] [0, 1, 2, 3, 4, 5, 6, 7, 8, 9, 10, 11, 12] 0 ?_; refine X3e ?_; intro HL; refine Xcz ?_
  refine X5 ?_; refine Xd0 ?_; refine X3g ?_; refine X6u ?_; refine Xf ?_; intro K hK; refine xac cf93 rfl _ rfl ?_; refine X1y ?_; (with_reducible refine (HF.out _ (HH.out.st.sw.below HL.below)).mono ?_); rintro e w ⟨v, rfl, hov, hb⟩; have hov2 := hov.mono (Nat.le_trans (Nat.le_refl _) HL.fr.size); replace HL := HL.next hb; clear hb hov; refine X58 ?_; clear hK K; refine X5u ?_; refine X5t ?_; refine X4o ?_; refine X4q ?_; go_wp2_with fail
  go_ret3
  exact ⟨v, rfl, hov2, HL.below⟩
end
structure Rw where
  key : Sv
  gone : Bool
  val : Sv
def Rw.cells (x : Rw) : List Value := [x.key.v, .bool x.gone, x.val.v]
theorem Rw.len (x : Rw) : x.cells.length = 3 := rfl
theorem Rw.one (x : Rw) : ∀ u ∈ x.cells, u.oneCell' = true := by
  intro u hu; simp only [Rw.cells, List.mem_cons, List.not_mem_nil, or_false] at hu; rcases hu with rfl | rfl | rfl <;> rfl
def Rw.z : Rw := ⟨Sv.nil, false, Sv.nil⟩
theorem Rw.g_key (x : Rw) : x.cells[0]? = some x.key.v := rfl
theorem Rw.g_gone (x : Rw) : x.cells[1]? = some (Value.bool x.gone) := rfl
theorem Rw.g_val (x : Rw) : x.cells[2]? = some x.val.v := rfl
theorem zr80w : ZA Tryz.prog 80 Rw.z.cells := ⟨.agg Rw.z.cells.toArray, by kernel_rfl, rfl⟩
structure RE where
  r : Rw
  k : List UInt8
  v : List UInt8
structure RawT (D : Nat → Prop) (w : World) (A : Option Addr) (n c : Nat) (rs : List RE) : Prop where
  rd : Rd w A ((rs.map RE.r).flatMap Rw.cells)
  len : rs.length = n
  cap : n ≤ c
  kt : ∀ e ∈ rs, Tx w e.r.key.A e.r.key.n e.r.key.c e.k
  vt : ∀ e ∈ rs, Tx w e.r.val.A e.r.val.n e.r.val.c e.v
  dv : ∀ e ∈ rs, e.v ≠ [] → ∀ ad, e.r.val.A = some ad → ¬ D ad.block
theorem RawT.at_ {D : Nat → Prop} {w : World} {A : Option Addr} {n c : Nat} {rs : List RE} (h : RawT D w A n c rs) (i : Nat) (hi : i < rs.length) : ∃ ad, A = some ad ∧ Rd w (some (ad.add (i * 3))) rs[i].r.cells := by
  have hl : (rs.map RE.r).length = rs.length := by simp
  obtain ⟨ad, e, _⟩ := h.rd (by rw [xcc Rw.len]; omega); refine ⟨ad, e, ?_⟩; have h2 := h.rd.cut (i * 3) 3; rw [e] at h2; have h3 := xeo (f := Rw.cells) Rw.len (rs.map RE.r) [] i (by omega); rw [List.append_nil] at h3; rw [h3, List.getElem_map] at h2; exact h2
theorem RawT.below {D : Nat → Prop} {w w' : World} {A : Option Addr} {n c : Nat} {rs : List RE} (h : RawT D w A n c rs) (hb : Below w.heap.size w w') : RawT D w' A n c rs :=
  ⟨h.rd.below hb, h.len, h.cap, fun e he => (h.kt e he).below hb, fun e he => (h.vt e he).below hb, h.dv⟩
def keyD (l : List UInt8) : D32 := if h : l.length = 32 then ⟨l, h⟩ else D32.z
theorem keyD_l {l : List UInt8} (h : l.length = 32) : (keyD l).l = l := by unfold keyD; rw [dif_pos h]
def toE (e : RE) : WE := (⟨keyD e.k, e.r.gone, e.r.val⟩, e.v)
def badK (rs : List RE) : Bool := rs.any fun e => !(e.k.length == 32)
def xcj (rs : List RE) : Int := if badK rs then 3 else if xcz (rs.map toE) then 4 else 0
theorem badK_no {rs : List RE} : badK rs = false ↔ ∀ e ∈ rs, e.k.length = 32 := by
  unfold badK; rw [List.any_eq_false]; exact ⟨fun h e he => by have := h e he; simpa using this, fun h e he => by simp [h e he]⟩
theorem of_bad (A : Option Addr) (n c : Nat) (l : List UInt8) (w : World) (hr : Rd w A (bvs l)) (hl : l.length = n) (hn : n ≤ 140737488351232) (hc : n ≤ c) (hb : ¬ l.length = 32) :
    Calls Tryz.prog 40 #[.slice A n c] w fun e w' => e = .returned (.tuple #[(⟨keyZ, xbl⟩ : D32).a, .int .i64 3]) ∧ Below w.heap.size w w' := by
  refine (of_any A n c l w hr hl hn hc).mono ?_; rintro e w' ⟨rfl, hb2⟩; rw [if_neg hb, if_neg hb]; exact ⟨rfl, hb2⟩
theorem xsy (x0 : D32) (x1 : Bool) (x2 : Sv) : Instr.fill (fun x => [(0, 32), (32, 1), (33, 1)].toArray[x]?) Wrt.z.cells.toArray [(0, .agg x0.c.toArray), (1, .bool x1), (2, x2.v)] = some ((⟨x0, x1, x2⟩ : Wrt)).cells.toArray := by
  rw [show Wrt.z = (⟨D32.z, false, Sv.nil⟩ : Wrt) from rfl]; refine xaj (vs := x0.c) rfl (rfl) (D32.cl _) (by rw [Wrt.len]; decide) ?_; rw [Wrt.s_key]; refine xaj (vs := [.bool x1]) rfl (rfl) (rfl) (by rw [Wrt.len]; decide) ?_; rw [xbj _ _ _ (by rw [Wrt.len]; decide)]; rw [show (⟨x0, false, Sv.nil⟩ : Wrt).cells.set 32 (.bool x1) = (⟨x0, x1, Sv.nil⟩ : Wrt).cells from Wrt.s_gone (⟨x0, false, Sv.nil⟩ : Wrt) (x1)]; refine xaj (vs := [x2.v]) rfl (rfl) (rfl) (by rw [Wrt.len]; decide) ?_; rw [xbj _ _ _ (by rw [Wrt.len]; decide)]; rw [show (⟨x0, x1, Sv.nil⟩ : Wrt).cells.set 33 (x2.v) = (⟨x0, x1, x2⟩ : Wrt).cells from Wrt.s_val (⟨x0, x1, Sv.nil⟩ : Wrt) (x2)]; rfl
def vsL (l : List (List UInt8 × Int)) : List (Value × Value) := l.map fun x => (.string ⟨x.1.toArray⟩, .int .i64 x.2)
structure DcV (D : Nat → Prop) (w : World) (gd gs g gv gm : Nat) (σ : Sb) (vs vf : Sv) (vl : List (List UInt8 × Int)) (root : Int) : Prop where
  blk : Blk w gd 166 [.pointer (some ⟨gv, 0, none⟩), .pointer (some ⟨gs, 0, none⟩), .int .i64 root]
  st : StP D w gs g σ vs vf
  vb : Blk w gv 259 [.pointer (some ⟨gs, 0, none⟩), .map (some gm)]
  mp : MapP w gm (vsL vl)
  fd : ¬ D gd
  fv : ¬ D gv
  fm : ¬ D gm
  short : ∀ x ∈ vl, x.1.length ≤ 20
def dA (D : Nat → Prop) (gd gv gm : Nat) : Nat → Prop := fun k => D k ∨ k = gd ∨ k = gv ∨ k = gm
section
variable {D D' : Nat → Prop} {w w' : World} {gd gs g gv gm : Nat} {σ : Sb} {vs vf : Sv} {vl : List (List UInt8 × Int)} {root : Int}
theorem DcV.dc (h : DcV D w gd gs g gv gm σ vs vf vl root) : DcP D w gd gs g σ vs vf (.pointer (some ⟨gv, 0, none⟩)) root := ⟨h.blk, h.st, h.fd⟩
theorem DcV.below (h : DcV D w gd gs g gv gm σ vs vf vl root) (hb : Below w.heap.size w w') : DcV D w' gd gs g gv gm σ vs vf vl root :=
  ⟨h.blk.below hb h.blk.lt, h.st.below hb, h.vb.below hb h.vb.lt, h.mp.below hb, h.fd, h.fv, h.fm, h.short⟩
theorem DcV.fr (h : DcV D w gd gs g gv gm σ vs vf vl root) {T : Nat → Prop} (hf : Fr T w w') (hT : ∀ k, dA D gd gv gm k → ¬ T k) : DcV D w' gd gs g gv gm σ vs vf vl root :=
  ⟨h.blk.fr hf (hT _ (.inr (.inl rfl))), h.st.fr hf (fun k hk => hT k (.inl hk)), h.vb.fr hf (hT _ (.inr (.inr (.inl rfl)))), h.mp.fr hf (hT _ (.inr (.inr (.inr rfl)))), h.fd, h.fv, h.fm, h.short⟩
theorem DcV.lt (h : DcV D w gd gs g gv gm σ vs vf vl root) : ∀ k, dA D gd gv gm k → k < w.heap.size := by
  rintro k (hk | rfl | rfl | rfl)
  · exact h.st.sb.lt k hk
  · exact h.blk.lt
  · exact h.vb.lt
  · exact h.mp.lt
theorem DcV.c0 (h : DcV D w gd gs g gv gm σ vs vf vl root) : w.cell? ⟨gd, 0, none⟩ = some (.pointer (some ⟨gv, 0, none⟩)) := by rw [h.blk.cell]; rfl
theorem DcV.c1 (h : DcV D w gd gs g gv gm σ vs vf vl root) : w.cell? ⟨gd, 1, none⟩ = some (.pointer (some ⟨gs, 0, none⟩)) := by rw [h.blk.cell]; rfl
theorem DcV.c2 (h : DcV D w gd gs g gv gm σ vs vf vl root) : w.cell? ⟨gd, 2, none⟩ = some (.int .i64 root) := by rw [h.blk.cell]; rfl
theorem DcV.v0 (h : DcV D w gd gs g gv gm σ vs vf vl root) : w.cell? ⟨gv, 0, none⟩ = some (.pointer (some ⟨gs, 0, none⟩)) := by rw [h.vb.cell]; rfl
theorem DcV.v1 (h : DcV D w gd gs g gv gm σ vs vf vl root) : w.cell? ⟨gv, 1, none⟩ = some (.map (some gm)) := by rw [h.vb.cell]; rfl
theorem DcV.dv (h : DcV D w gd gs g gv gm σ vs vf vl root) : gd ≠ gv := h.blk.ne h.vb (by decide)
theorem Stp.dict (hs : Stp D w D' w') : Stp (dA D gd gv gm) w (dA D' gd gv gm) w' := by
  refine ⟨?_, ?_, ?_⟩
  · rintro k (hk | hk)
    · rcases hs.new k hk with h1 | h1
      · exact .inl (.inl h1)
      · exact .inr h1
    · exact .inl (.inr hk)
  · rintro k (hk | hk)
    · exact .inl (hs.old k hk)
    · exact .inr hk
  · exact ⟨hs.fr.os, hs.fr.tape, hs.fr.output, hs.fr.size, fun k hk hn => hs.fr.block k hk (fun h => hn (.inl h))⟩
theorem DcV.turned (h : DcV D w gd gs g gv gm σ vs vf vl root) {σ' : Sb} {vs' vf' : Sv} (hs : Stp D w D' w') (hP : StP D' w' gs g σ' vs' vf') : DcV D' w' gd gs g gv gm σ' vs' vf' vl root := by
  have hn : ∀ k, ¬ D k → k < w.heap.size → ¬ D' k := fun k hk hlt hd => by
    rcases hs.new k hd with h1 | h1
    · exact hk h1
    · omega
  exact ⟨h.blk.fr hs.fr h.fd, hP, h.vb.fr hs.fr h.fv, h.mp.fr hs.fr h.fm, hn _ h.fd h.blk.lt, hn _ h.fv h.vb.lt, hn _ h.fm h.mp.lt, h.short⟩
theorem DcV.rooted (h : DcV D w gd gs g gv gm σ vs vf vl root) (z : Int) (hb : Blk w' gd 166 [.pointer (some ⟨gv, 0, none⟩), .pointer (some ⟨gs, 0, none⟩), .int .i64 z]) (hf : Fr (· = gd) w w') : DcV D w' gd gs g gv gm σ vs vf vl z :=
  ⟨hb, h.st.fr hf (fun k hk e => h.fd (by rw [← e]; exact hk)), h.vb.fr hf (fun e => h.dv e.symm), h.mp.fr hf (fun e => h.mp.ne_blk h.blk e), h.fd, h.fv, h.fm, h.short⟩
theorem stp_root (hf : Fr (· = gd) w w') : Stp (dA D gd gv gm) w (dA D gd gv gm) w' := Stp.of_fr hf (fun k hk => .inr (.inl hk))
end
def ApplyG (D : Nat → Prop) (w : World) (gs g : Nat) (σ : Sb) (R : List Int) (told : Tre) (es : List WE) (c : Nat) (e : Ending) (w' : World) : Prop :=
  ∃ (t : Tre) (z : Int) (D' : Nat → Prop) (vs' vf' : Sv) (σ' : Sb), e = .returned (.tuple #[.int .i64 z, .int .i64 0]) ∧ StP D' w' gs g σ' vs' vf' ∧ Stp D w D' w' ∧ σ'.Inv (if z = 0 then R else z :: R) [] ∧ σ.Keeps R σ' ∧ IsT σ' z 0 t ∧ σ'.room = σ.room ∧ σ'.used ≤ σ.used + c ∧ SpA told es t
theorem ApplyO.good {D : Nat → Prop} {w : World} {gs g : Nat} {σ : Sb} {R : List Int} {told : Tre} {es : List WE} {c : Nat} {e : Ending} {w' : World} (h : ApplyO D w gs g σ R told es c e w') (hl : xcz es = false) : ApplyG D w gs g σ R told es c e w' := by
  rcases h with ⟨h1, _⟩ | ⟨_, h⟩
  · rw [hl] at h1; cases h1
  · exact h
theorem ApplyO.bad {D : Nat → Prop} {w : World} {gs g : Nat} {σ : Sb} {R : List Int} {told : Tre} {es : List WE} {c : Nat} {e : Ending} {w' : World} (h : ApplyO D w gs g σ R told es c e w') (hl : xcz es = true) : e = .returned (.tuple #[.int .i64 0, .int .i64 4]) ∧ Below w.heap.size w w' := by
  rcases h with ⟨_, h⟩ | ⟨h1, _⟩
  · exact h
  · rw [hl] at h1; cases h1
def BatO (D : Nat → Prop) (w : World) (gd gs g gv gm : Nat) (σ : Sb) (vl : List (List UInt8 × Int)) (R : List Int) (told : Tre) (rs : List RE) (e : Ending) (w' : World) : Prop :=
  (xcj rs ≠ 0 ∧ e = .returned (.int .i64 (xcj rs)) ∧ Below w.heap.size w w') ∨
  (xcj rs = 0 ∧ ∃ (t : Tre) (z : Int) (D' : Nat → Prop) (vs' vf' : Sv) (σ' : Sb), e = .returned (.int .i64 0) ∧ DcV D' w' gd gs g gv gm σ' vs' vf' vl z ∧ Stp (dA D gd gv gm) w (dA D' gd gv gm) w' ∧ σ'.Inv (if z = 0 then R else z :: R) [] ∧ σ.Keeps R σ' ∧ IsT σ' z 0 t ∧ σ'.room = σ.room ∧ σ'.used ≤ σ.used + 257 * rs.length ∧ SpA told (rs.map toE) t)
section
variable {D : Nat → Prop} {w w' : World} {gd gs g gv gm : Nat} {σ : Sb} {vs vf : Sv} {vl : List (List UInt8 × Int)} {root : Int}
theorem xoi (h : DcV D w gd gs g gv gm σ vs vf vl root) (R : List Int) (told : Tre) (hI : σ.Inv (if root = 0 then R else root :: R) []) (ht : IsT σ root 0 told) (hok : told.Ok 0) (A : Option Addr) (n c : Nat) (rs : List RE) (hW : RawT D w A n c rs) (hn : n ≤ 11) (hbig : ∀ e ∈ rs, e.k.length ≤ 140737488351232)
    (hRl : R.length ≤ 400000000) (hts : told.size ≤ 400000) (hr : 1 ≤ σ.room ∧ σ.room ≤ 65536) (hfit : σ.used + 258 * n ≤ σ.room) :
    Calls Tryz.prog 74 #[.pointer (some ⟨gd, 0, none⟩), .slice A n c] w (BatO D w gd gs g gv gm σ vl R told rs) := by
  have HH := hZ h; have HI := hZ hI; have HT := hZ ht; have HOK := hZ hok; have HW := hZ hW; have HRL := hZ hRl; have HTS := hZ hts; have HRM := hZ hr; have HFT := hZ hfit; have HBIG := hZ hbig; have HEL := hZ hW.len; clear h hI ht hok hW hRl hts hr hfit hbig; have HL := Loc.start w; obtain ⟨w0, rfl⟩ := eW w; go_enter Tryz.func74, Tryz.ntmps74; go_upto_region 0 with fail; refine X1j ?_; go_upto_region 1 with fail; refine X1x ?_; intro K hK; refine Xcq ?_; (with_reducible refine (xhi (HH.out.dc.below HL.below)).mono ?_); rintro e w ⟨rfl, rfl⟩; refine X22 ?_; clear hK K; go_upto_region 3 with fail; refine X1j ?_; go_upto_region 4 with fail; refine X11 ?_; refine xaa rfl _ (xcs Tryz.underlying73 _ rfl _ _ _ rfl) ?_; refine X1e ?_; go_wp2_with fail
  go_loopw [5, 16] (fun v z wr => ∃ (i : Nat) (G : List (Nat × Nat × List Value)) (sv : Sv), i ≤ n ∧ v = sv.v ∧ z = .int .i64 (i : Int) ∧ badK (rs.take i) = false ∧ Gw 222 34 G sv i (((rs.take i).map fun e => (toE e).1).flatMap Wrt.cells) ∧ Loc w0 (Old w0) (G ++ []) wr) (fun _ z _ => (n - intOf z).toNat)
  case atStart => exact ⟨0, [], Sv.nil, Nat.zero_le _, rfl, rfl, rfl, Gw.nil 222 34, HL⟩
  case round => as_aux_lemma =>
    clear HL; obtain ⟨i, G, sv, hi, rfl, rfl, hbk, hG, HL⟩ := hrel; obtain ⟨w, rfl⟩ := eW wr; have HBK := hZ hbk; clear hbk; by_cases hlt : i < n
    · have k5 : decide ((i : Int) < (n : Int)) = true := by simp; omega
      refine X9k ?_; intro HI1; have hil : i < rs.length := by rw [HEL.out]; exact hlt
      obtain ⟨ad, hA, hrd0⟩ := HW.out.at_ i hil; refine X9b ?_; intro HSV; have HRD : ∀ (L : List (Nat × Nat × List Value)) (W : World), Loc w0 (Old w0) L W → Hid (Rd W (some (ad.add (i * 3))) rs[i].r.cells) := fun L W hW => hZ (hrd0.below hW.below)
      have HTK : Hid (((rs.take (i + 1)).map fun e => (toE e).1) = ((rs.take i).map fun e => (toE e).1) ++ [(toE rs[i]).1]) := hZ (by rw [List.take_succ_eq_append_getElem hil, List.map_append]; rfl)
      have HTB : Hid (badK (rs.take (i + 1)) = (badK (rs.take i) || !(rs[i].k.length == 32))) := hZ (by
        unfold badK; rw [List.take_succ_eq_append_getElem hil, List.any_append]
        simp only [List.any_cons, List.any_nil, Bool.or_false])
      have HKT := hZ (HW.out.kt _ (List.getElem_mem hil)); have HBG := hZ (HBIG.out _ (List.getElem_mem hil)); have HME := hZ (List.getElem_mem hil); clear hA hrd0; obtain ⟨x, hx⟩ : ∃ x, rs[i] = x := ⟨_, rfl⟩; rw [hx] at HRD HTK HTB HKT HBG HME; clear hx; go_upto_region 5 with fail; refine Xs ?_; refine Xd4 ?_; refine X21 ?_; go_upto_region 6 with fail; refine Xs ?_; refine xaa rfl _ (xbf sl73 (.tmp 14) _ rfl ad n c i .i64 HSV.out rfl hlt) ?_; refine X5 ?_; refine xaa rfl _ (xbx ag80 _ rfl _ x.r.cells rfl (HRD _ _ HL).out (by omega) (Rw.len _)) ?_; refine X5 ?_; refine xai zr80w rfl rfl HL ?_; clear HL; intro g7 w HL; refine Xd5 ?_; refine X35 ?_; clear HL; intro w HL; by_cases hk : x.k.length = 32
      · have HK32 := hZ hk
        have HKE : Hid ((toE x).1 = ⟨keyD x.k, x.r.gone, x.r.val⟩ ∧ (keyD x.k).l = x.k ∧ x.r.key.n = 32) := hZ ⟨rfl, keyD_l hk, by rw [← HKT.out.len]; exact hk⟩; have HNX : Hid (badK (rs.take (i + 1)) = false) := hZ (by rw [HTB.out, HBK.out, hk]; rfl); have CO : ∀ (L : List (Nat × Nat × List Value)) (u : World), Loc w0 (Old w0) L u → Hid (Calls Tryz.prog 40 #[x.r.key.v] u fun e w' => e = .returned (.tuple #[(keyD x.k).a, .int .i64 0]) ∧ Below u.heap.size u w') := fun L u hu => hZ (of_d u x.r.key.A x.r.key.n x.r.key.c (keyD x.k) (by rw [HKE.out.2.1]; exact (HKT.out.below hu.below).rd) HKE.out.2.2 HKT.out.cap)
        clear hk; go_upto_region 7 with fail; refine Xs ?_; refine Xd6 ?_; refine X5 ?_; refine Xd7 ?_; refine X4z ?_; intro K hK; refine Xcr ?_; (with_reducible refine ((CO _ _ HL).out).mono ?_); refine X4a ?_; clear hK K; intro w HL; refine xai zr24 rfl rfl HL ?_; clear HL; intro g8 w HL; refine X6p ?_; refine X4c ?_; clear HL; intro w HL; go_upto_region 8 with fail; refine Xcn ?_; go_upto_region 10 with fail; refine X11 ?_; refine X6q ?_; refine X5 ?_; refine Xd8 ?_; refine X5 ?_; refine xaa rfl _ (xah sc4 HL _ rfl _ _ rfl _ _ _ (.tail _ (.head _)) (Rw.g_gone _)) ?_; refine X5 ?_; refine Xd9 ?_; refine X5 ?_; refine xaa rfl _ (xah sc25 HL _ rfl _ _ rfl _ _ _ (.tail _ (.head _)) (Rw.g_val _)) ?_; refine X5 ?_; refine xaa rfl _ (xbq bs222 _ rfl _ (by exact xsy (keyD x.k) x.r.gone x.r.val)) ?_; refine X5 ?_
        refine xb7 xcd xe0 (by decide) rfl _ rfl HL _ rfl (Wrt.len _) ?_; clear HL; intro g36 w HL; refine X4z ?_; intro K hK; refine xa9 xcd xe0 _ _ rfl [_, _, _] i sv _ hG HL rfl ⟨g36, 0, none⟩ 1 1 (⟨keyD x.k, x.r.gone, x.r.val⟩ : Wrt).cells rfl (Rd.of_blk0 (es := []) (by rw [List.append_nil]; exact HL.blk (.head _))) (Wrt.len _) (Wrt.one _) (by decide) (by omega) (by omega) ?_; clear HL; intro sv' G' w hG' HL; refine X8z ?_; clear hK K; have HLd := HL.drop (G' ++ []) (sA [_, _, _] _); have HG' := hZ hG'; clear HL hG hG'; have HL := HLd; clear HLd; go_upto_region 11 with fail; refine Xc3 ?_; go_wp2_with fail; go_roundw
        case rel => exact ⟨i + 1, G', sv', by omega, rfl, rfl, HNX.out, by rw [HTK.out, List.flatMap_append]; simpa [toE] using HG'.out, HL⟩
        case measure => simp [intOf] <;> omega
      · have HERR : Hid (xcj rs = 3) := hZ (by
          have h9 : badK rs = true := List.any_eq_true.2 ⟨x, HME.out, by simpa using hk⟩; unfold xcj
          rw [if_pos h9])
        have CO : ∀ (L : List (Nat × Nat × List Value)) (u : World), Loc w0 (Old w0) L u → Hid (Calls Tryz.prog 40 #[x.r.key.v] u fun e w' => e = .returned (.tuple #[(⟨keyZ, xbl⟩ : D32).a, .int .i64 3]) ∧ Below u.heap.size u w') := fun L u hu => hZ (of_bad x.r.key.A x.r.key.n x.r.key.c x.k u (HKT.out.below hu.below).rd HKT.out.len (by rw [← HKT.out.len]; exact HBG.out) HKT.out.cap hk)
        clear hk; go_upto_region 7 with fail; refine Xs ?_; refine Xd6 ?_; refine X5 ?_; refine Xd7 ?_; refine X4z ?_; intro K hK; refine Xcr ?_; (with_reducible refine ((CO _ _ HL).out).mono ?_); refine X4a ?_; clear hK K; intro w HL; refine xai zr24 rfl rfl HL ?_; clear HL; intro g8 w HL; refine X6p ?_; refine X4c ?_; clear HL; intro w HL; go_upto_region 8 with fail; refine Xcp ?_; refine X21 ?_; go_upto_region 9 with fail; refine X7j ?_; go_wp2_with fail; go_ret; exact .inl ⟨by rw [HERR.out]; decide, by rw [HERR.out]; rfl, HL.below⟩
    · have k5 : decide ((i : Int) < (n : Int)) = false := by simp; omega
      have hin : i = n := by omega
      subst hin; rw [List.take_of_length_le (by rw [HEL.out]; exact Nat.le_refl _)] at hG; have HBKA : Hid (badK rs = false) := hZ (by have h9 := HBK.out; rwa [List.take_of_length_le (by rw [HEL.out]; exact Nat.le_refl _)] at h9); clear hlt; go_upto_region 5 with fail; refine Xs ?_; refine Xd4 ?_; refine X21 ?_; have HB := hZ HL.below; have hmm : ((rs.map toE).map Prod.fst) = rs.map fun e => (toE e).1 := by rw [List.map_map]; rfl
      have HWT : Hid (WriT D w sv.A sv.n sv.c ((rs.map toE).map Prod.fst) ((rs.map toE).map Prod.snd)) := hZ (by
        refine ⟨⟨by rw [hmm]; exact hG.rd (L0 := []) HL, by rw [hmm, List.length_map, HEL.out]; exact hG.len.symm, hG.cap.1⟩, by simp, fun j hj => ?_, fun hne ad e hk => ?_, fun j hj hne ad e => ?_⟩
        · have hj2 : j < rs.length := by simpa using hj
          have h1 := (HW.out.vt _ (List.getElem_mem hj2)).below HL.below; simpa [List.getD_eq_getElem?_getD, List.getElem?_map, List.getElem?_eq_getElem hj2, toE] using h1
        · have h1 := hG.fars (N := w0.heap.size) (fun x hx => Nat.le_of_not_lt fun hlt => (HL.own x (by simp [hx])).1 hlt) ad e
          have h2 := HH.out.st.sb.lt _ hk; omega
        · have hj2 : j < rs.length := by simpa using hj
          refine HW.out.dv _ (List.getElem_mem hj2) ?_ ad (by simpa [toE] using e)
          simpa [List.getD_eq_getElem?_getD, List.getElem?_map, List.getElem?_eq_getElem hj2, toE] using hne)
      have CA : ∀ u, Below w.heap.size w u → Hid (Calls Tryz.prog 127 #[.pointer (some ⟨gs, 0, none⟩), .int .i64 root, sv.v] u (ApplyO D u gs g σ R told (rs.map toE) (257 * sv.n))) := fun u hu => hZ (apply_ok D u gs g σ vs vf R root told sv.A sv.n sv.c (rs.map toE) ((HH.out.st.below HB.out).below hu) HI.out HT.out HOK.out (HWT.out.step (Stp.of_below hu)) (by rw [hG.len]; exact hn) HRL.out HTS.out HRM.out (by rw [hG.len]; exact HFT.out))
      have HSN := hZ hG.len; have HDW := hZ (HH.out.below HB.out); clear HL hG hmm HWT; have HL := Loc.start w; obtain ⟨w1, rfl⟩ := eW w; have hgd : Old w1 gd ∧ ¬ D gd := ⟨HDW.out.blk.lt, HDW.out.fd⟩; have hc1 := HDW.out.c1; have hc2 := HDW.out.c2; have HX := HL.less (D' := fun k => Old w1 k ∧ ¬ D k) (fun k hk => hk.1); have HLB := hZ HL.drew.below; clear HL; have HL := HX; clear HX
      cases hlong : xcz (rs.map toE) with
      | true =>
        have HERR : Hid (xcj rs = 4) := hZ (by unfold xcj; rw [HBKA.out, hlong]; rfl); replace CA : ∀ u, Below w1.heap.size w1 u → Hid (Calls Tryz.prog 127 #[.pointer (some ⟨gs, 0, none⟩), .int .i64 root, sv.v] u fun e w' => e = .returned (.tuple #[.int .i64 0, .int .i64 4]) ∧ Below u.heap.size u w') := fun u hu => hZ ((CA u hu).out.mono fun e w' h9 => h9.bad hlong)
        clear hlong; go_upto_region 12 with fail; refine Xba ?_; refine X3e ?_; intro HL; refine Xcz ?_; refine X5 ?_; refine Xd0 ?_; refine X3h ?_; refine Xd1 ?_; refine X5 ?_; refine Xd2 ?_; refine X3g ?_; refine Xe ?_; intro K hK; refine xac cf127 rfl _ rfl ?_; refine X1y ?_; (with_reducible refine ((CA _ HLB.out).out).mono ?_); refine X43 ?_; intro w hb HL; have HBW := hZ ((HB.out.trans (HLB.out.mono HB.out.size)).trans (hb.mono (Nat.le_trans HB.out.size HLB.out.size))); clear hb; refine X74 ?_; clear hK K; go_upto_region 13 with fail; refine X11 ?_; refine xaa rfl _ (xa3 (b := false) _ _ rfl _ _ rfl rfl rfl) ?_; refine X21 ?_; go_upto_region 15 with fail; refine X7j ?_; go_wp2_with fail; go_ret; exact .inl ⟨by rw [HERR.out]; decide, by rw [HERR.out]; rfl, HBW.out⟩
      | false =>
        have HERR : Hid (xcj rs = 0) := hZ (by unfold xcj; rw [HBKA.out, hlong]; rfl); replace CA : ∀ u, Below w1.heap.size w1 u → Hid (Calls Tryz.prog 127 #[.pointer (some ⟨gs, 0, none⟩), .int .i64 root, sv.v] u (ApplyG D u gs g σ R told (rs.map toE) (257 * sv.n))) := fun u hu => hZ ((CA u hu).out.mono fun e w' h9 => h9.good hlong)
        clear hlong; go_upto_region 12 with fail; refine Xba ?_; refine X3e ?_; intro HL; refine Xcz ?_; refine X5 ?_; refine Xd0 ?_; refine X3h ?_; refine Xd1 ?_; refine X5 ?_; refine Xd2 ?_; refine X3g ?_; refine Xe ?_; intro K hK; refine xac cf127 rfl _ rfl ?_; refine X1y ?_; (with_reducible refine ((CA _ HLB.out).out).mono ?_); rintro e w ⟨t, z, D2, vs2, vf2, σ2, rfl, hP2, hS2, hI2, hK2, hT2, hr2, hu2, hsp2⟩; replace HL := HL.frame hS2.fr (fun k hk hd => hd.2 hk) (fun x hx => by cases hx); have HD2 := hZ ((HDW.out.below HLB.out).turned hS2 hP2); have HS2 : Hid (Stp (dA D gd gv gm) w0 (dA D2 gd gv gm) w) := hZ ((Stp.of_below (HB.out.trans (HLB.out.mono HB.out.size))).trans hS2.dict); have HI2 := hZ hI2; have HK2 := hZ hK2; have HT2 := hZ hT2; have HU2 : Hid (σ2.room = σ.room ∧ σ2.used ≤ σ.used + 257 * rs.length) := hZ ⟨hr2, by rw [HSN.out] at hu2; rw [HEL.out]; exact hu2⟩
        have HSP := hZ hsp2; clear hP2 hS2 hI2 hK2 hT2 hr2 hu2 hsp2; refine X74 ?_; clear hK K; clear HL; go_upto_region 13 with fail; refine X11 ?_; refine Xda ?_; refine X21 ?_; have HL := (Loc.start w).adopt (fun k => k = gd) [(gd, 166, [.pointer (some ⟨gv, 0, none⟩), .pointer (some ⟨gs, 0, none⟩), .int .i64 root])] (by simp; exact HD2.out.blk) (by simp); simp only [qn] at HL; obtain ⟨w2, rfl⟩ := eW w; go_upto_region 14 with fail; refine X31 ?_; refine Xcs ?_; refine Xd3 ?_; refine X35 ?_; clear HL; intro w HL; go_upto_region 15 with fail; refine X7j ?_; go_wp2_with fail; go_ret; have hf := HL.frS; exact .inr ⟨HERR.out, t, z, D2, vs2, vf2, σ2, rfl, HD2.out.rooted z (HL.blk (.head _)) hf, HS2.out.trans (stp_root hf), HI2.out, HK2.out, HT2.out, HU2.out.1, HU2.out.2, HSP.out⟩
end
section
variable {P : Program} {w : World} {o : Oper} {a : Act} {Q : Exit → Act → World → Prop} {K : Act → World → Prop}
theorem xic {n : Nat} (C : CF P n) {x : Operand} {xs : List Operand} {ts : Array TypeId} (ho : o.op = .call { callee := .value x, args := xs.toArray, argTypes := ts }) (fs cp : List Value) (hx : a.eval x = .func (.func n) fs.toArray cp.toArray)
    (args : List Value) (ha : fs ++ xs.map a.eval ++ cp = args) (hC : Calls P n args.toArray w fun e w' => ∃ v, e = .returned v ∧ K (a.put o.dst v) w') : o.wp P a w K Q := by
  obtain ⟨fn, hf, hnm, hb⟩ := C.f
  have e : (execOp a.eval o).run P w = .ok (.enter n args.toArray) w := by
    unfold execOp; simp only [ho, resolve, List.map_toArray, hx]; have h1 : fn.name ≠ "runtime.NumGoroutine" := by simpa using hnm
    have h2 : fn.body ≠ none := by intro h; rw [h] at hb; cases hb
    have h3 : fs.toArray ++ (xs.map a.eval).toArray ++ cp.toArray = args.toArray := by rw [← ha]; simp
    simp [Deferred.ofValue, invoke, callFunc, hf, h1, h2, ← ha]
  unfold Oper.wp; rw [e]; refine hC.mono ?_; rintro e w' ⟨v, rfl, hk⟩; exact hk
theorem xgd (fn : Fn) (fs cp : List Operand) (ho : o.op = .makeFunc fn fs.toArray cp.toArray) (vs us : List Value) (h1 : fs.map a.eval = vs) (h2 : cp.map a.eval = us) : (execOp a.eval o).run P w = .ok (.value (.func fn vs.toArray us.toArray)) w := by
  unfold execOp; simp only [ho, Instr.makeFunc, List.map_toArray, h1, h2, Sem.run_bind, Sem.run_pure, Result.andThen_ok]
theorem xoj {t t' k e : TypeId} (ht : P.underlying t = some (.map k e)) (x : Operand) (ho : o.op = .binOp .eql t x (.const (.map none)) t') (b : Nat) (hx : a.eval x = .map (some b)) : (execOp a.eval o).run P w = .ok (.value (.bool false)) w := by
  have h := run_eql_map_nil w t k e (some b) ht; have hc : a.eval (.const (.map none)) = .map none := rfl; unfold execOp; simp only [ho, hx, hc]; go_simp
theorem xfw {t : TypeId} (ht : P.underlying t = some .string) (x : Operand) (ho : o.op = .call { callee := .builtin .len, args := #[x], argTypes := #[t] }) (l : List UInt8) (hx : a.eval x = .string ⟨l.toArray⟩) :
    (execOp a.eval o).run P w = .ok (.value (.int .i64 (l.length : Int))) w := by
  have e : (Builtin.len_ #[t] o.type #[.string ⟨l.toArray⟩]).run P w = .ok (.int .i64 (l.length : Int)) w := by
    simp [Builtin.len_, run_underlying ht]; rfl
  unfold execOp; simp only [ho, resolve, invoke, builtin, Sem.run_bind, Sem.run_pure, Result.andThen_ok, List.map_toArray, qk, ql, hx, e]
end
structure Low (s : List UInt8) : Prop where
  lo : 1 ≤ s.length
  hi : s.length ≤ 20
  az : ∀ c ∈ s, 97 ≤ c.toNat ∧ c.toNat ≤ 122
theorem xok (s : List UInt8) (h : Low s) (w : World) : Calls Tryz.prog 121 #[.string ⟨s.toArray⟩] w fun e w' => e = .returned (.bool true) ∧ w = w' := by
  have k1 : decide ((s.length : Int) < 1) = false := by have := h.lo; simp; omega
  have k2 : decide ((s.length : Int) > 20) = false := by have := h.hi; simp; omega
  have HS := hZ h; clear h; have HL := Loc.start w; obtain ⟨w0, rfl⟩ := eW w; go_enter Tryz.func121, Tryz.ntmps121; go_upto_region 0 with fail; refine X1j ?_; go_upto_region 1 with fail; refine X11 ?_; refine xaa rfl _ (xfw Tryz.underlying9 _ rfl s rfl) ?_; refine X5 ?_; refine Xdb ?_; refine xad rfl _ (xfw Tryz.underlying9 _ rfl s rfl) ?_; refine X5 ?_; refine xad rfl _ (xch (b := false) _ _ rfl _ _ rfl rfl k2) ?_; refine X2a ?_; go_upto_region 3 with fail; refine X11 ?_; refine xaa rfl _ (xfw Tryz.underlying9 _ rfl s rfl) ?_; refine X1e ?_; go_wp2_with fail; clear HL
  go_loopw [16] (fun z wr => ∃ i : Nat, i ≤ s.length ∧ z = .int .i64 (i : Int) ∧ w0 = wr) (fun z _ => (s.length - intOf z).toNat)
  case atStart => exact ⟨0, Nat.zero_le _, rfl, rfl⟩
  case round => as_aux_lemma =>
    obtain ⟨i, hi, rfl, rfl⟩ := hrel; have HL := Loc.start w0; by_cases hlt : i < s.length
    · have k4 : decide ((i : Int) < (s.length : Int)) = true := by simp; omega
      have HI1 : Hid ((i : Int) + 1 = ((i + 1 : Nat) : Int)) := hZ (by have := HS.out.hi; omega); have haz := HS.out.az _ (List.getElem_mem hlt); obtain ⟨x, hx⟩ : ∃ x, s[i] = x := ⟨_, rfl⟩; rw [hx] at haz; have k7 : decide ((x.toNat : Int) ≥ 97) = true := by simp; omega
      have k8 : decide ((x.toNat : Int) ≤ 122) = true := by simp; omega
      have hv : ((s[i]).toNat : Int) = (x.toNat : Int) := by rw [hx]
      have HIX : Hid (∀ (a : Act) (o : Oper), o.op = .index 9 (.tmp 19) (.tmp 20) → a.eval (.tmp 19) = .string ⟨s.toArray⟩ → a.eval (.tmp 20) = .int .i64 (i : Int) → (execOp a.eval o).run Tryz.prog w0 = .ok (.value (.int .u8 (x.toNat : Int))) w0) := hZ (fun a o ho h1 h2 => by
        have := xef (w := w0) (a := a) Tryz.underlying9 _ _ ho s h1 .i64 i h2 hlt
        rwa [hv] at this)
      clear hv haz hx; go_upto_region 4 with fail; refine Xa3 ?_; go_upto_region 5 with fail; refine X7j ?_; go_upto_region 6 with fail; refine X18 ?_; refine xaa rfl _ (HIX.out _ _ rfl rfl rfl) ?_; refine X19 ?_; go_upto_region 7 with fail; refine X11 ?_; refine xaa rfl _ (xfr (b := true) _ _ rfl _ _ rfl rfl k7) ?_; refine X26 ?_; refine xad rfl _ (xcq (b := true) _ _ rfl _ _ rfl rfl k8) ?_; refine X1u ?_; go_upto_region 8 with fail; refine X5c ?_; refine no_implicit_lambda% (X2g ?_); refine no_implicit_lambda% (X2g ?_); refine no_implicit_lambda% (X2g ?_); refine no_implicit_lambda% (X2f ?_); refine X29 ?_; go_upto_region 10 with fail; refine Xs ?_; refine xaa rfl _ (xay _ _ rfl _ _ _ rfl rfl HI1.out (by have := HS.out.hi; omega)) ?_; refine X1e ?_; go_wp2_with fail; go_roundw
      case rel => exact ⟨i + 1, by omega, rfl, trivial⟩
      case measure => simp [intOf] <;> omega
    · have k4 : decide ((i : Int) < (s.length : Int)) = false := by simp; omega
      go_upto_region 4 with fail; refine Xa3 ?_; go_upto_region 11 with fail; refine X1j ?_; go_wp2_with fail; go_ret; exact ⟨rfl, rfl⟩
section
variable {D : Nat → Prop} {w w' : World} {gd gs g gv gm : Nat} {σ : Sb} {vs vf : Sv} {vl : List (List UInt8 × Int)} {root : Int}
theorem vs_none (h : DcV D w gd gs g gv gm σ vs vf vl root) : Calls Tryz.prog 182 #[.pointer (some ⟨gv, 0, none⟩)] w fun e w' => e = .returned (.bool false) ∧ w = w' := by
  have hgv : Old w gv := h.vb.lt; have hv1 := h.v1; clear h; have HL := Loc.start w; obtain ⟨w0, rfl⟩ := eW w; go_enter Tryz.func182, Tryz.ntmps182; go_upto_region 0 with fail; refine X1j ?_; go_upto_region 1 with fail; refine X1q ?_; refine xad rfl _ (xaf xqs _ rfl _ rfl) ?_; refine X5 ?_; refine xad rfl _ (xax sc257 HL _ rfl _ rfl _ hgv hv1) ?_; refine X5 ?_; refine xad rfl _ (xoj Tryz.underlying257 _ rfl gm rfl) ?_; refine X1u ?_; go_wp2_with fail; go_ret; exact ⟨rfl, rfl⟩
theorem vs_len (h : DcV D w gd gs g gv gm σ vs vf vl root) : Calls Tryz.prog 181 #[.pointer (some ⟨gv, 0, none⟩)] w fun e w' => e = .returned (.int .i64 (vl.length : Int)) ∧ w = w' := by
  have HH := hZ h; have HM : Hid (MapP w gm (vsL vl)) := hZ h.mp; have hgv : Old w gv := h.vb.lt; have hv1 := h.v1; have HE : Hid ((vsL vl).length = vl.length) := hZ (by simp [vsL]); clear h; have HL := Loc.start w; obtain ⟨w0, rfl⟩ := eW w; go_enter Tryz.func181, Tryz.ntmps181; go_upto_region 0 with fail; refine X1j ?_; go_upto_region 1 with fail; refine X1x ?_; intro K hK; refine xac cf182 rfl _ rfl ?_; refine X1y ?_; refine Xdc ?_; rintro e w ⟨rfl, rfl⟩; refine X22 ?_; clear hK K; go_upto_region 3 with fail; refine Xdd ?_; refine X5 ?_; refine Xde ?_; refine X5 ?_; refine xaa rfl _ (xip HM.out Tryz.underlying257 _ rfl rfl) ?_; refine X19 ?_; go_wp2_with fail; go_ret; exact ⟨by rw [← HE.out]; rfl, rfl⟩
theorem xq6 {nm : Value} (h : DcP D w gd gs g σ vs vf nm root) : Calls Tryz.prog 123 #[.pointer (some ⟨gd, 0, none⟩)] w fun e w' => e = .returned (.int .i64 0) ∧ w = w' := by
  have HH := hZ h; clear h; have HL := Loc.start w; obtain ⟨w0, rfl⟩ := eW w; go_enter Tryz.func123, Tryz.ntmps123; go_upto_region 0 with fail; refine X1j ?_; go_upto_region 1 with fail; refine X1x ?_; intro K hK; refine Xcq ?_; (with_reducible refine (xhi (HH.out.below HL.below)).mono ?_); rintro e w ⟨rfl, rfl⟩; refine X22 ?_; clear hK K; go_upto_region 3 with fail; refine X1j ?_; go_wp2_with fail; go_ret; exact ⟨rfl, rfl⟩
theorem dc_room (h : DcV D w gd gs g gv gm σ vs vf vl root) (h16 : vl.length < 16) : Calls Tryz.prog 124 #[.pointer (some ⟨gd, 0, none⟩)] w fun e w' => e = .returned (.int .i64 0) ∧ w = w' := by
  have HH := hZ h; have hgd : Old w gd := h.blk.lt; have hc0 := h.c0; have k6 : decide ((vl.length : Int) ≥ 16) = false := by simp; omega
  clear h; have HL := Loc.start w; obtain ⟨w0, rfl⟩ := eW w; go_enter Tryz.func124, Tryz.ntmps124; go_upto_region 0 with fail; refine X1j ?_; go_upto_region 1 with fail; refine X13 ?_; refine xaa rfl _ (xaf xl3 _ rfl _ rfl) ?_; refine X5 ?_; refine xaa rfl _ (xaf xl2 _ rfl _ rfl) ?_; refine X5 ?_; refine xaa rfl _ (xax sc161 HL _ rfl _ rfl _ hgd hc0) ?_; refine X4z ?_; intro K hK; refine xac cf181 rfl _ rfl ?_; refine X1y ?_; (with_reducible refine (vs_len (HH.out.below HL.below)).mono ?_); rintro e w ⟨rfl, rfl⟩; refine X5i ?_; clear hK K; refine xaa rfl _ (xfr (b := false) _ _ rfl _ _ rfl rfl k6) ?_; refine X21 ?_; go_upto_region 3 with fail; refine X1j ?_; go_wp2_with fail; go_ret; exact ⟨rfl, rfl⟩
theorem snap_fit (s : List UInt8) (hs : Low s) (g9 : Nat) (hb : Blk w g9 9 [.string ⟨s.toArray⟩]) : Calls Tryz.prog 120 #[.pointer (some ⟨g9, 0, none⟩)] w fun e w' => e = .returned (.int .i64 0) ∧ w = w' := by
  have hg9 : Old w g9 := hb.lt; have hc : w.cell? ⟨g9, 0, none⟩ = some (.string ⟨s.toArray⟩) := by rw [hb.cell]; rfl
  have HS := hZ hs; clear hb; have HL := Loc.start w; obtain ⟨w0, rfl⟩ := eW w; go_enter Tryz.func120, Tryz.ntmps120; go_upto_region 0 with fail; refine X1j ?_; go_upto_region 1 with fail; refine Xs ?_; refine xaa rfl _ (xax sc9 HL _ rfl _ rfl _ hg9 hc) ?_; refine X4z ?_; intro K hK; refine xac cf121 rfl _ rfl ?_; refine X1y ?_; (with_reducible refine (xok s HS.out _).mono ?_); rintro e w ⟨rfl, rfl⟩; refine X20 ?_; clear hK K; refine X2a ?_; go_upto_region 3 with fail; refine X1j ?_; go_wp2_with fail; go_ret; exact ⟨rfl, rfl⟩
def HoldO (D : Nat → Prop) (w : World) (gs g : Nat) (σ : Sb) (vs vf : Sv) (R : List Int) (root : Int) (e : Ending) (w' : World) : Prop :=
  ∃ σ', e = .returned (.int .i64 0) ∧ StP D w' gs g σ' vs vf ∧ Stp D w D w' ∧ σ'.Inv (if root = 0 then R else root :: R) [] ∧ σ.Stays σ' ∧ σ'.room = σ.room ∧ σ'.used = σ.used
theorem vs_hold (h : DcV D w gd gs g gv gm σ vs vf vl root) (R : List Int) (hI : σ.Inv R []) (z : Int) (t : Tre) (ht : IsT σ z 0 t) (hRl : R.length ≤ 536870912) :
    Calls Tryz.prog 183 #[.pointer (some ⟨gv, 0, none⟩), .int .i64 z] w (HoldO D w gs g σ vs vf R z) := by
  have hgv : Old w gv := h.vb.lt; have hv0 := h.v0; have HL := Loc.start w; obtain ⟨w0, rfl⟩ := eW w; by_cases hz : z = 0
  · subst hz
    go_enter Tryz.func183, Tryz.ntmps183; go_upto_region 0 with fail; refine X1j ?_; go_upto_region 1 with fail; refine X11 ?_; refine Xda ?_; refine X21 ?_; go_upto_region 2 with fail; refine X1j ?_; go_wp2_with fail; go_ret; exact ⟨σ, rfl, h.st, Stp.refl _ _, by simpa using hI, fun i hi hc => ⟨hi, rfl, rfl, hc⟩, rfl, rfl⟩
  · obtain ⟨i, hi, hzi, hc, _⟩ := ht.nz hz
    have hcl := hI.count_le i hi; have hhl := hI.held_le i hi; have hok := hI.ok; have h1 := hok.few; have h2 := hok.r2; have hcp := hI.count i hi
    have HB : Hid (0 < σ.slots[i].count ∧ σ.slots[i].count < 1073741824 ∧ (-4611686018427387904 ≤ σ.slots[i].nd.held ∧ σ.slots[i].nd.held ≤ 4611686018427387900)) := hZ (by
      simp only [qs] at hcl
      refine ⟨by omega, by omega, by omega, by omega⟩)
    have k1 : (z == 0) = false := by simpa using hz
    have HH := hZ h; have HI := hZ (hI.hold i hi hc); have HZ := hZ hzi; clear hcl hhl hok h1 h2 hcp h hI ht hzi; go_enter Tryz.func183, Tryz.ntmps183; go_upto_region 0 with fail; refine X1j ?_; go_upto_region 1 with fail; refine X11 ?_; refine X8n ?_; refine X21 ?_; go_upto_region 3 with fail; refine X13 ?_; refine Xdf ?_; refine X5 ?_; refine Xdg ?_; refine X42 ?_; intro K hK; refine xac cf129 rfl _ rfl ?_; refine X1y ?_; (with_reducible refine (xmf HH.out.st z i HZ.out hi HB.out.1 HB.out.2.1 HB.out.2.2).mono ?_); rintro e w ⟨rfl, hP, hf⟩; refine X2n ?_; clear hK K; go_wp2_with fail; go_ret; have hS : σ.Stays (σ.hold i hi) := Sb.Stays.hold i hi (by have := HB.out.1; omega); exact ⟨σ.hold i hi, rfl, hP, Stp.of_fr hf (fun k hk => HH.out.st.sb.own k hk), by rw [if_neg hz, HZ.out]; exact HI.out.1, hS, rfl, rfl⟩
end
theorem xp0 {vl : List (List UInt8 × Int)} (h : ∀ x ∈ vl, x.1.length ≤ 20) : xh2 Tryz.prog 9 (vsL vl) := fun x hx => by
  obtain ⟨y, hy, rfl⟩ := List.mem_map.1 hx
  exact key9 _ (by
    show y.1.toArray.size ≤ maxLen; have := h y hy; have e : y.1.toArray.size = y.1.length := by simp
    rw [e]; unfold maxLen; omega)
theorem xq7 {a b : List UInt8} (h : (Value.string ⟨a.toArray⟩) = .string ⟨b.toArray⟩) : a = b := by
  injection h with h; injection h with h; simpa using congrArg Array.toList h
theorem vsL_no {vl : List (List UInt8 × Int)} {s : List UInt8} (h : s ∉ vl.map Prod.fst) : ∀ x ∈ vsL vl, x.1 ≠ .string ⟨s.toArray⟩ := fun x hx e => by
  obtain ⟨y, hy, rfl⟩ := List.mem_map.1 hx; exact h (List.mem_map.2 ⟨y, hy, xq7 e⟩)
theorem xp1 {vl : List (List UInt8 × Int)} {s : List UInt8} {j : Nat} {u : Value} (h : (vsL vl)[j]? = some (.string ⟨s.toArray⟩, u)) : ∃ z, vl[j]? = some (s, z) ∧ u = .int .i64 z := by
  unfold vsL at h; rw [List.getElem?_map] at h
  cases hk : vl[j]? with
  | none => rw [hk] at h; cases h
  | some y =>
    rw [hk] at h; simp only [Option.map_some, Option.some.injEq, Prod.mk.injEq] at h; refine ⟨y.2, ?_, h.2.symm⟩; rw [← xq7 h.1]
end Go.Proofs.YtkjjdgnkelchfaaGreat
