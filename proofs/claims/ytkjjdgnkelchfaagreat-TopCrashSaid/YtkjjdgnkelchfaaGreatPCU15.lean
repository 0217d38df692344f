import Derived.Test.YtkjjdgnkelchfaaGreatPCU14
set_option linter.unusedSimpArgs false
set_option linter.unusedVariables false
set_option maxRecDepth 100000
set_option maxHeartbeats 16000000
namespace Go.Proofs.YtkjjdgnkelchfaaGreat
open Go Go.RowKit
def xib (D : Nat → Prop) (w : World) (gs g : Nat) (σ : Sb) (R : List Int) (d : Nat) (told : Tre) (es : List WE) (c : Nat) (e : Ending) (w' : World) : Prop :=
  ∃ (t : Tre) (z : Int) (D' : Nat → Prop) (vs' vf' : Sv) (σ' : Sb), e = .returned (.int .i64 z) ∧ StP D' w' gs g σ' vs' vf' ∧ Stp D w D' w' ∧ σ'.Inv (if z = 0 then R else z :: R) [] ∧ σ.Keeps R σ' ∧ IsT σ' z d t ∧ σ'.room = σ.room ∧ σ'.used ≤ σ.used + c ∧ SpB d told es t
structure xmt (N : Nat) : Prop where
  run : ∀ (d : Nat) (hd : d + N = 256) (D : Nat → Prop) (w : World) (gs g : Nat) (σ : Sb) (vs vf : Sv) (R : List Int) (zo : Int) (told : Tre) (A : Option Addr) (n c : Nat) (es : List WE),
  StP D w gs g σ vs vf → σ.Inv R [] → IsT σ zo d told → (zo = 0 ∨ σ.Live R zo) → told.Ok d → WriT D w A n c (es.map Prod.fst) (es.map Prod.snd) → xfh es → Alike d (told.keys ++ xa2 es) → (∀ e ∈ es, e.1.gone = false → e.2.length ≤ 1024) → R.length + N ≤ 500000000 → n ≤ 11 → told.size ≤ 500000 → σ.used + (N + 1) * n ≤ σ.room →
  Calls Tryz.prog 186 #[.pointer (some ⟨gs, 0, none⟩), .int .i64 zo, .int .i64 (d : Int), .slice A n c] w (xib D w gs g σ R d told es ((N + 1) * n))
theorem xoe (qs : List PE) : esOf ((qs.map toW).map Prod.fst) ((qs.map toW).map Prod.snd) = qs.map entP := by
  unfold esOf
  induction qs with
  | nil => rfl
  | cons q qs ih => simp only [qk, List.zip_cons_cons, ih]; rfl
theorem xof {mv : Sv} {x : Value} (hx : x = mv.v) (ps : List PE) {w : World} (hp : PrT w mv ps) (A : Option Addr) (n c : Nat) (es : List WE) (h : WriT (fun _ => False) w A n c (es.map Prod.fst) (es.map Prod.snd)) (hn : ps.length + n ≤ 12) (hbg : ∀ e ∈ ps.map toW ++ es, e.1.gone = false → e.2.length ≤ 1048576) :
    Calls Tryz.prog 225 #[x, .slice A n c] w (OvO w (ps.map toW ++ es)) := by rw [hx]; exact xiq w mv ps hp A n c es h hn hbg
theorem xpy (N : Nat) (d : Nat) (hd : d + N = 256) (D : Nat → Prop) (w : World) (gs g : Nat) (σ : Sb) (vs vf : Sv) (R : List Int) (zo : Int) (told : Tre) (A : Option Addr) (c : Nat) (h : StP D w gs g σ vs vf) (hI : σ.Inv R []) (ht : IsT σ zo d told) (hok : told.Ok d) (hRl : R.length + N ≤ 500000000) :
    Calls Tryz.prog 186 #[.pointer (some ⟨gs, 0, none⟩), .int .i64 zo, .int .i64 (d : Int), .slice A 0 c] w (xib D w gs g σ R d told [] 0) := by
  have kn : (((0 : Nat) : Int) == 0) = true := rfl; have HH := hZ h; have HI := hZ hI; have HT := hZ ht; have HOK := hZ hok; have HRL := hZ hRl; clear h hI ht hok hRl; have HL := Loc.start w; obtain ⟨w0, rfl⟩ := eW w; go_enter Tryz.func186, Tryz.ntmps186; go_upto_region 0 with fail; refine X1j ?_; go_upto_region 1 with fail; refine Xa2 ?_; refine X5 ?_; refine xaa rfl _ (xa3 (b := true) _ _ rfl _ _ rfl rfl kn) ?_; refine X21 ?_; go_upto_region 2 with fail; refine X2k ?_; intro K hK; refine Xbv ?_; refine X1y ?_; (with_reducible refine (xf9 (HH.out.below HL.below) R HI.out zo d told HT.out (by have := HRL.out; omega)).mono ?_); rintro e w ⟨z3, D3, vs3, vf3, σ3, rfl, hP3, hS3, hI3, hY3, hT3, hr3, hu3⟩; refine X2n ?_; clear hK K; go_wp2_with fail; go_ret
  exact ⟨told, z3, D3, vs3, vf3, σ3, rfl, hP3, (Stp.of_below HL.below).trans hS3, hI3, hY3.keeps HI.out, hT3, hr3, hu3, sp_none HOK.out⟩
theorem xsv (N : Nat) (d : Nat) (hd : d + N = 256) (D : Nat → Prop) (w : World) (gs g : Nat) (σ : Sb) (vs vf : Sv) (R : List Int) (zo : Int) (A : Option Addr) (n c : Nat) (es : List WE)
    (h : StP D w gs g σ vs vf) (hI : σ.Inv R []) (ht : IsT σ zo d Tre.nil) (hlv : zo = 0 ∨ σ.Live R zo) (hok : Tre.nil.Ok d) (hW : WriT D w A n c (es.map Prod.fst) (es.map Prod.snd)) (hR : xfh es) (hal : Alike d (Tre.nil.keys ++ xa2 es)) (hv : ∀ e ∈ es, e.1.gone = false → e.2.length ≤ 1024) (hRl : R.length + N ≤ 500000000) (hn : n ≤ 11) (hts : Tre.nil.size ≤ 500000) (hroom : σ.used + (N + 1) * n ≤ σ.room) (hn1 : 1 ≤ n) : Calls Tryz.prog 186 #[.pointer (some ⟨gs, 0, none⟩), .int .i64 zo, .int .i64 (d : Int), .slice A n c] w (xib D w gs g σ R d (.nil) es ((N + 1) * n)) := by
  obtain ⟨told, htold⟩ : ∃ t : Tre, t = .nil := ⟨_, rfl⟩; have hzo : zo = 0 := ht
  have HBG : Hid (∀ y : Sv, ∀ e ∈ (xdk told y).map toW ++ es, e.1.gone = false → e.2.length ≤ 1048576) := hZ (fun y e he hg => by
    rw [htold] at he; rcases List.mem_append.1 he with he | he
    · cases he
    · exact Nat.le_trans (hv e he hg) (by decide))
  have G0 : Hid (Got σ zo Nd.z [] false) := hZ (.inr ⟨rfl, by omega, rfl, rfl⟩); have k3 : ((Nd.z.kind : Int) == 2) = false := rfl; have k5 : ((Nd.z.kind : Int) == 1) = false := rfl; have hel : es.length = n := by have := hW.s.len; simpa using this
  have kn : ((n : Int) == 0) = false := nB (by omega); have HH := hZ h; have HI := hZ hI; have HT := hZ ht; have HOK := hZ hok; have HW := hZ hW; have HRI := hZ hR; have HAL := hZ hal; have HVL := hZ hv; have HRL := hZ hRl; have HRM := hZ hroom; have HEL := hZ hel; have hti : told.isIn = false := by rw [htold]; rfl
  have HLN : ∀ y : Sv, Hid ((xdk told y).length + n ≤ 12) := fun y => hZ (by rw [htold]; show 0 + n ≤ 12; omega)
  have HPW : ∀ W : World, Hid (PrT W Sv.nil (xdk told Sv.nil)) := fun W => hZ (by
    rw [htold]
    exact ⟨Rd.nil _ _, rfl, Nat.le_refl _, fun p hp => by cases hp⟩)
  rw [← htold] at *; clear h hI ht hlv hok hW hR hal hv hRl hts hroom hel hzo; have HL := Loc.start w; obtain ⟨w0, rfl⟩ := eW w; go_enter Tryz.func186, Tryz.ntmps186; go_upto_region 0 with fail; refine X1j ?_; go_upto_region 1 with fail; refine Xa2 ?_; refine X5 ?_; refine Xbw ?_; refine X21 ?_; go_upto_region 3 with fail; refine X7l ?_; intro K hK; refine Xb8 ?_; refine X4x ?_; clear hK K; intro w HL; refine Xbx ?_; go_upto_region 4 with fail; refine X1j ?_; go_upto_region 5 with fail; refine X7l ?_; intro K hK; refine Xb8 ?_; refine X4x ?_; clear hK K; intro w HL; refine xaa rfl _ (xa3 (b := false) _ _ rfl _ _ rfl rfl k5) ?_; refine X21 ?_; have HB := hZ HL.below; clear HL; have HL := Loc.start w; obtain ⟨w1, rfl⟩ := eW w; obtain ⟨y, hy⟩ : ∃ y : Sv, y = Sv.nil := ⟨_, rfl⟩; have HPR := HPW w1; rw [← hy] at HPR; replace HBG := hZ (HBG.out y); have HLN := HLN y; clear HPW
  obtain ⟨mv, hmv⟩ : ∃ mv : Sv, mv = Sv.nil := ⟨_, rfl⟩; have hmvv : Hid (Value.slice none 0 0 = mv.v) := hZ (by rw [hmv]; rfl); have HPR : Hid (PrT w1 mv (xdk told y)) := by rw [hmv, ← hy]; exact HPR
  clear hy hmv; go_upto_region 7 with fail; refine X1j ?_; go_upto_region 8 with fail; refine X2k ?_; intro K hK; refine xac cf225 rfl _ rfl ?_; refine X1y ?_; (with_reducible refine (xof hmvv.out (xdk told y) (HPR.out.below HL.below) A n c es ((HW.out.step (Stp.of_below (D := D) (HB.out.trans (HL.below.mono HB.out.size)))).free) HLN.out HBG.out).mono ?_); rintro e w ⟨v8, qs, rfl, hO⟩; refine Xby ?_; intro HB2 HFA; have HPQ := hZ hO.pr; have HRQ := hZ hO.rise; refine Xbz ?_; intro HSQ; have HQL : Hid (qs.length ≤ (xdk told y).length + n ∧ v8.n = qs.length) := hZ ⟨by have h1 := hO.len; rw [List.length_append, List.length_map, HEL.out] at h1; exact h1, hO.pr.len.symm⟩; clear hO HL HPR HB; refine X5i ?_; clear hK K; refine Xc0 ?_; have HL := Loc.start w; obtain ⟨w2, rfl⟩ := eW w; have hqn : qs.length ≤ 12 := by have h1 := HQL.out.1; have h2 := HLN.out; omega
  go_wp2_with fail
  go_loopw [10, 48] (fun v z wr => ∃ (i : Nat) (G : List (Nat × Nat × List Value)) (sv : Sv), i ≤ qs.length ∧ v = sv.v ∧ z = .int .i64 (i : Int) ∧ Gw 222 34 G sv i (((qs.take i).map fun p => (toW p).1).flatMap Wrt.cells) ∧ Loc w2 (Old w2) (G ++ []) wr) (fun _ z _ => (qs.length - intOf z).toNat)
  case atStart => exact ⟨0, [], Sv.nil, Nat.zero_le _, rfl, rfl, Gw.nil 222 34, HL⟩
  case round => as_aux_lemma =>
    clear HL; obtain ⟨i, G, sv, hi, rfl, rfl, hG, HL⟩ := hrel; obtain ⟨w, rfl⟩ := eW wr; by_cases hlt : i < qs.length
    · have k4 : decide ((i : Int) < (qs.length : Int)) = true := by simp; omega
      refine X9k ?_; intro HI1; obtain ⟨ad, hA, hrd0⟩ := HPQ.out.at_ i hlt; have HSV : Hid (v8.v = .slice (some ad) v8.n v8.c) := hZ (by unfold Sv.v; rw [hA]); refine Xc1 ?_; intro HRD; have HTK : Hid (((qs.take (i + 1)).map fun p => (toW p).1) = ((qs.take i).map fun p => (toW p).1) ++ [(toW qs[i]).1]) := hZ (by rw [List.take_succ_eq_append_getElem hlt, List.map_append]; rfl); have hin : i < v8.n := by rw [HQL.out.2]; exact hlt
      clear hA hrd0; obtain ⟨⟨x, lx⟩, hx⟩ : ∃ x, qs[i] = x := ⟨_, rfl⟩; rw [hx] at HRD HTK; clear hx; go_upto_region 9 with fail; refine Xa3 ?_; go_upto_region 10 with fail; refine Xc2 ?_; refine X5 ?_; refine Xap ?_; refine X5 ?_; refine xai zr61 rfl rfl HL ?_; clear HL; intro g12 w HL; refine X5 ?_; refine Xaq ?_; refine X35 ?_; clear HL; intro w HL; go_upto_region 11 with fail; refine X11 ?_; refine Xar ?_; refine X5 ?_; refine Xas ?_; refine X5 ?_; refine Xat ?_; refine X5 ?_; refine Xau ?_; refine X5 ?_; refine Xav ?_; refine X5 ?_; refine xb7 xcd xe0 (by decide) rfl _ rfl HL _ rfl (Wrt.len _) ?_; clear HL; intro g58 w HL; refine X4z ?_; intro K hK
      refine xa9 xcd xe0 _ _ rfl [_, _] i sv _ hG HL rfl ⟨g58, 0, none⟩ 1 1 (⟨x.key, false, x.val⟩ : Wrt).cells rfl (Rd.of_blk0 (es := []) (by rw [List.append_nil]; exact HL.blk (.head _))) (Wrt.len _) (Wrt.one _) (by decide) (by omega) (by omega) ?_; clear HL; intro sv' G' w hG' HL; refine X8z ?_; clear hK K; have HLd := HL.drop (G' ++ []) (sA [_, _] _); have HG' := hZ hG'; clear HL hG hG'; have HL := HLd; clear HLd; go_upto_region 12 with fail; refine Xc3 ?_; go_wp2_with fail; go_roundw
      case rel => exact ⟨i + 1, G', sv', by omega, rfl, rfl, by rw [HTK.out, List.flatMap_append]; simpa [toW] using HG'.out, HL⟩
      case measure => simp [intOf] <;> omega
    · have k4 : decide ((i : Int) < (qs.length : Int)) = false := by simp; omega
      have hin : i = qs.length := by omega
      subst hin; rw [List.take_length] at hG; clear hlt; have HG := hZ hG; clear hG; go_upto_region 9 with fail; refine Xa3 ?_; have HBW := hZ (HB2.out.trans (HL.below.mono HB2.out.size))
      have HWF : Hid (WriT D w sv.A sv.n sv.c ((qs.map toW).map Prod.fst) ((qs.map toW).map Prod.snd)) := hZ (by
        have hmm : ((qs.map toW).map Prod.fst) = qs.map fun p => (toW p).1 := by rw [List.map_map]; rfl
        refine ⟨⟨by rw [hmm]; exact HG.out.rd (L0 := []) HL, by rw [hmm, List.length_map]; exact HG.out.len.symm, HG.out.cap.1⟩, by simp, fun j hj => ?_, fun hne ad e hk => ?_, fun j hj hne ad e hk => ?_⟩
        · have hj2 : j < qs.length := by simpa using hj
          have h1 := (HPQ.out.tx _ (List.getElem_mem hj2)).below HL.below; simpa [List.getD_eq_getElem?_getD, List.getElem?_map, List.getElem?_eq_getElem hj2, toW] using h1
        · have h1 := HG.out.fars (N := w2.heap.size) (fun x hx => Nat.le_of_not_lt fun hlt => (HL.own x (by simp [hx])).1 hlt) ad e
          have h2 := HH.out.sb.lt _ hk; have h3 := HB2.out.size; omega
        · have hj2 : j < qs.length := by simpa using hj
          have h1 := HFA.out _ (List.getElem_mem hj2) ad (by simpa [toW] using e); have h2 := HH.out.sb.lt _ hk
          omega)
      have hes := xoe qs
      have hris : Rise (qs.map entP) := by
        unfold Rise; rw [List.pairwise_map]; exact HRQ.out
      have hkin : ∀ p ∈ qs.map entP, p.1 ∈ told.keys ++ xa2 es := fun p hp => by
        rcases (HSQ.out p.1 p.2).1 hp with h1 | ⟨_, h1⟩
        · exact List.mem_append.2 (.inr (by rw [← xc4]; exact List.mem_map.2 ⟨_, h1, rfl⟩))
        · exact List.mem_append.2 (.inl (xc3 h1))
      refine Xc4 ?_; intro hshare
      have hlen : ∀ p ∈ qs.map entP, p.2.length ≤ 1024 := fun p hp => by
        rcases (HSQ.out p.1 p.2).1 hp with h1 | ⟨_, h1⟩
        · obtain ⟨e, he, h2⟩ := List.mem_map.1 h1
          unfold pw at h2; injection h2 with _ h3
          split at h3
          · cases h3
          · next hg =>
            injection h3 with h3; rw [← h3]; exact HVL.out e he (by simpa using hg)
        · exact xfu HOK.out _ h1
      have hparts := xfd N d _ hd hris hshare
      have HFE : Hid (FrE N d ((qs.map toW).map Prod.fst) ((qs.map toW).map Prod.snd)) := hZ (by
        refine ⟨by rw [hes]; exact hparts, by rw [hes]; exact hlen, by rw [hes]; exact hshare, ?_⟩; have h1 := xfe hris; rw [List.map_map] at h1 ⊢; rw [List.map_map]
        exact h1)
      have hnew : newN told (esOf ((qs.map toW).map Prod.fst) ((qs.map toW).map Prod.snd)) ≤ n := by
        rw [hes, ← HEL.out]; exact new_le hti (xfe hris) HSQ.out
      have HNW := hZ (And.intro hnew (Nat.mul_le_mul_left (N + 1) hnew))
      have HTF : Hid (SpB d told es (xau N d (esOf ((qs.map toW).map Prod.fst) ((qs.map toW).map Prod.snd)))) := hZ (by
        rw [hes]; refine ⟨xdw N d _ hd hparts hlen hshare, fun k v => ?_, ?_⟩
        · rw [xfc N d _ hd hparts hlen hshare]
          exact HSQ.out k v
        · refine Nat.le_trans (xcw N d _).2 ?_
          rw [List.length_map, HEL.out]; refine Nat.le_trans HQL.out.1 (Nat.add_le_add_right ?_ n)
          cases told with
          | nil => simp [xdk]
          | leaf k v => simp [xdk, Tre.size]
          | inner a b => cases hti)
      have CF : Hid (Calls Tryz.prog 226 #[.pointer (some ⟨gs, 0, none⟩), .int .i64 zo, .int .i64 (d : Int), sv.v] w (MadeT D w gs g σ R d (xau N d (esOf ((qs.map toW).map Prod.fst) ((qs.map toW).map Prod.snd))) ((N + 1) * newN told (esOf ((qs.map toW).map Prod.fst) ((qs.map toW).map Prod.snd))))) :=
        hZ ((xia N).run d hd D w gs g σ vs vf R zo d told sv.A sv.n sv.c _ _ (HH.out.below HBW.out) HI.out HT.out hti (fun k v e => by have h1 := HOK.out; rw [e] at h1; exact h1.1) HWF.out HFE.out HRL.out (by have h1 := HG.out.len; omega) (by have h1 := HNW.out.2; have h2 := HRM.out; omega))
      clear hes hris hkin hshare hlen hparts hnew HWF HFE HL; go_upto_region 13 with fail; refine X8c ?_; intro K hK; refine Xb0 ?_; (with_reducible refine (CF.out).mono ?_); rintro e w ⟨z1, D2, vs2, vf2, σ2, rfl, hP2, hS2, hI2, hY2, hT2, hr2, hu2⟩; have HP2 := hZ hP2; have HS2 := hZ ((Stp.of_below HBW.out).trans hS2); have HI2 := hZ hI2; have HY2 := hZ hY2; have HT2 := hZ hT2; have HU2 := hZ (And.intro hr2 hu2); clear hP2 hS2 hI2 hY2 hT2 hr2 hu2; refine X2n ?_; clear hK K; go_wp2_with fail; go_ret; exact ⟨_, z1, D2, vs2, vf2, σ2, rfl, HP2.out, HS2.out, HI2.out, HY2.out.keeps HI.out, HT2.out, HU2.out.1, by have h1 := HU2.out.2; have h2 := HNW.out.2; omega, HTF.out⟩
theorem xpz (N : Nat) (d : Nat) (hd : d + N = 256) (D : Nat → Prop) (w : World) (gs g : Nat) (σ : Sb) (vs vf : Sv) (R : List Int) (zo : Int) (k : D32) (v : List UInt8) (A : Option Addr) (n c : Nat) (es : List WE)
    (h : StP D w gs g σ vs vf) (hI : σ.Inv R []) (ht : IsT σ zo d (Tre.leaf k v)) (hlv : zo = 0 ∨ σ.Live R zo) (hok : (Tre.leaf k v).Ok d) (hW : WriT D w A n c (es.map Prod.fst) (es.map Prod.snd)) (hR : xfh es) (hal : Alike d ((Tre.leaf k v).keys ++ xa2 es)) (hv : ∀ e ∈ es, e.1.gone = false → e.2.length ≤ 1024) (hRl : R.length + N ≤ 500000000) (hn : n ≤ 11) (hts : (Tre.leaf k v).size ≤ 500000) (hroom : σ.used + (N + 1) * n ≤ σ.room) (hn1 : 1 ≤ n) : Calls Tryz.prog 186 #[.pointer (some ⟨gs, 0, none⟩), .int .i64 zo, .int .i64 (d : Int), .slice A n c] w (xib D w gs g σ R d (.leaf k v) es ((N + 1) * n)) := by
  obtain ⟨told, htold⟩ : ∃ t : Tre, t = .leaf k v := ⟨_, rfl⟩; obtain ⟨i, hi, hzi, hci, hvi, hki, hkk, _⟩ := ht; obtain ⟨nd, hnd⟩ : ∃ nd, σ.slots[i].nd = nd := ⟨_, rfl⟩; have ht : IsT σ zo d (.leaf k v) := ⟨i, hi, hzi, hci, hvi, hki, hkk, ‹_›⟩; rw [hnd] at hki hkk; refine Xbi ?_; intro G0; have k3 : ((nd.kind : Int) == 2) = false := by rw [hki]; rfl
  have k5 : ((nd.kind : Int) == 1) = true := by rw [hki]; rfl
  have HKK := hZ hkk; have HVN : Hid (v.length ≤ 1024) := hZ hok.1
  have HBG : Hid (∀ y : Sv, ∀ e ∈ (xdk told y).map toW ++ es, e.1.gone = false → e.2.length ≤ 1048576) := hZ (fun y e he hg => by
    rw [htold] at he; rcases List.mem_append.1 he with he | he
    · have e1 := List.mem_singleton.1 he
      rw [e1]; exact Nat.le_trans hok.1 (by decide)
    · exact Nat.le_trans (hv e he hg) (by decide))
  have hel : es.length = n := by have := hW.s.len; simpa using this
  have kn : ((n : Int) == 0) = false := nB (by omega); have HH := hZ h; have HI := hZ hI; have HT := hZ ht; have HOK := hZ hok; have HW := hZ hW; have HRI := hZ hR; have HAL := hZ hal; have HVL := hZ hv; have HRL := hZ hRl; have HRM := hZ hroom; have HEL := hZ hel; have hti : told.isIn = false := by rw [htold]; rfl
  have HLN : ∀ y : Sv, Hid ((xdk told y).length + n ≤ 12) := fun y => hZ (by rw [htold]; show 1 + n ≤ 12; omega)
  have HPW : ∀ (y mv : Sv) (W : World), Rd W mv.A (⟨k, y⟩ : Par).cells → mv.n = 1 → mv.n ≤ mv.c → Tx W y.A y.n y.c v → Hid (PrT W mv (xdk told y)) := fun y mv W h1 h2 h3 h4 => hZ (by
    rw [htold]; refine ⟨by simpa [xdk] using h1, h2.symm, h3, fun p hp => ?_⟩
    rw [List.mem_singleton.1 hp]; exact h4)
  rw [← htold] at *; clear h hI ht hlv hok hW hR hal hv hRl hts hroom hel hzi hci hvi hki hkk hnd; have HL := Loc.start w; obtain ⟨w0, rfl⟩ := eW w; go_enter Tryz.func186, Tryz.ntmps186; go_upto_region 0 with fail; refine X1j ?_; go_upto_region 1 with fail; refine Xa2 ?_; refine X5 ?_; refine Xbw ?_; refine X21 ?_; go_upto_region 3 with fail; refine X7l ?_; intro K hK; refine Xbj ?_; refine X4x ?_; clear hK K; intro w HL; refine Xbx ?_; go_upto_region 4 with fail; refine X1j ?_; go_upto_region 5 with fail; refine X7l ?_; intro K hK; refine Xbj ?_; refine X4x ?_; clear hK K; intro w HL; refine xaa rfl _ (xa3 (b := true) _ _ rfl _ _ rfl rfl k5) ?_; refine X21 ?_; go_upto_region 6 with fail; refine X6m ?_; refine X1w ?_; intro K hK; refine X88 ?_; refine Xbn ?_; refine X44 ?_; intro w HL; rw [HKK.out]; refine X20 ?_; clear hK K; refine X14 ?_; refine X8b ?_; intro K hK
  refine X8a ?_; refine Xbt ?_; rintro e w ⟨v1, rfl, hov, hb⟩; obtain ⟨y, rfl, hyl, hyc, hym, hyr, hyf⟩ := xfq hov; have HY : Hid (Tx w y.A y.n y.c v) := hZ ⟨hyl, hyc, hym, hyr, fun _ _ h => h⟩; have HB0 := hZ (HL.below.trans (hb.mono HL.fr.size)); clear HL hb hov hyl hyc hym hyr hyf; have HL := Loc.start w; obtain ⟨w1, rfl⟩ := eW w; refine X5i ?_; clear hK K; refine xaa rfl _ (xbq bs61 _ rfl _ (by exact xqv k y)) ?_; refine X5 ?_; refine xb7 sl55 el61 (by decide) rfl _ rfl HL _ rfl (Par.len _) ?_; clear HL; intro g42 w HL; refine X4z ?_; intro K hK; refine xa9 sl55 el61 _ _ rfl [_] 0 Sv.nil [] (Gw.nil 61 33) (L1 := []) HL rfl ⟨g42, 0, none⟩ 1 1 (⟨k, y⟩ : Par).cells rfl (Rd.of_blk0 (es := []) (by rw [List.append_nil]; exact HL.blk (.head _))) (Par.len _) (Par.one _) (by decide) (by omega) (by omega) ?_; clear HL; intro mv G6 w hG6 HL
  rw [List.nil_append] at hG6; have HPR := HPW y mv w (hG6.rdm (fun x hx => by simp [hx]) HL) hG6.len hG6.cap.1 (HY.out.below HL.below); have HB := hZ (HB0.out.trans (HL.below.mono HB0.out.size)); refine hK _ _ ?_; clear hK K; clear hG6 HL HB0 HY; have HL := Loc.start w; obtain ⟨w1, rfl⟩ := eW w; refine Xz ?_; replace HBG := hZ (HBG.out y); have HLN := HLN y; clear HPW; go_upto_region 7 with fail; refine X1j ?_; go_upto_region 8 with fail; refine X2k ?_; intro K hK; refine xac cf225 rfl _ rfl ?_; refine X1y ?_; (with_reducible refine (xiq _ mv (xdk told y) (HPR.out.below HL.below) A n c es ((HW.out.step (Stp.of_below (D := D) (HB.out.trans (HL.below.mono HB.out.size)))).free) HLN.out HBG.out).mono ?_); rintro e w ⟨v8, qs, rfl, hO⟩; refine Xby ?_; intro HB2 HFA; have HPQ := hZ hO.pr; have HRQ := hZ hO.rise; refine Xbz ?_; intro HSQ
  have HQL : Hid (qs.length ≤ (xdk told y).length + n ∧ v8.n = qs.length) := hZ ⟨by have h1 := hO.len; rw [List.length_append, List.length_map, HEL.out] at h1; exact h1, hO.pr.len.symm⟩; clear hO HL HPR HB; refine X5i ?_; clear hK K; refine Xc0 ?_; have HL := Loc.start w; obtain ⟨w2, rfl⟩ := eW w; have hqn : qs.length ≤ 12 := by have h1 := HQL.out.1; have h2 := HLN.out; omega
  go_wp2_with fail
  go_loopw [10, 48] (fun v z wr => ∃ (i : Nat) (G : List (Nat × Nat × List Value)) (sv : Sv), i ≤ qs.length ∧ v = sv.v ∧ z = .int .i64 (i : Int) ∧ Gw 222 34 G sv i (((qs.take i).map fun p => (toW p).1).flatMap Wrt.cells) ∧ Loc w2 (Old w2) (G ++ []) wr) (fun _ z _ => (qs.length - intOf z).toNat)
  case atStart => exact ⟨0, [], Sv.nil, Nat.zero_le _, rfl, rfl, Gw.nil 222 34, HL⟩
  case round => as_aux_lemma =>
    clear HL; obtain ⟨i, G, sv, hi, rfl, rfl, hG, HL⟩ := hrel; obtain ⟨w, rfl⟩ := eW wr; by_cases hlt : i < qs.length
    · have k4 : decide ((i : Int) < (qs.length : Int)) = true := by simp; omega
      refine X9k ?_; intro HI1; obtain ⟨ad, hA, hrd0⟩ := HPQ.out.at_ i hlt; have HSV : Hid (v8.v = .slice (some ad) v8.n v8.c) := hZ (by unfold Sv.v; rw [hA]); refine Xc1 ?_; intro HRD; have HTK : Hid (((qs.take (i + 1)).map fun p => (toW p).1) = ((qs.take i).map fun p => (toW p).1) ++ [(toW qs[i]).1]) := hZ (by rw [List.take_succ_eq_append_getElem hlt, List.map_append]; rfl); have hin : i < v8.n := by rw [HQL.out.2]; exact hlt
      clear hA hrd0; obtain ⟨⟨x, lx⟩, hx⟩ : ∃ x, qs[i] = x := ⟨_, rfl⟩; rw [hx] at HRD HTK; clear hx; go_upto_region 9 with fail; refine Xa3 ?_; go_upto_region 10 with fail; refine Xc2 ?_; refine X5 ?_; refine Xap ?_; refine X5 ?_; refine xai zr61 rfl rfl HL ?_; clear HL; intro g12 w HL; refine X5 ?_; refine Xaq ?_; refine X35 ?_; clear HL; intro w HL; go_upto_region 11 with fail; refine X11 ?_; refine Xar ?_; refine X5 ?_; refine Xas ?_; refine X5 ?_; refine Xat ?_; refine X5 ?_; refine Xau ?_; refine X5 ?_; refine Xav ?_; refine X5 ?_; refine xb7 xcd xe0 (by decide) rfl _ rfl HL _ rfl (Wrt.len _) ?_; clear HL; intro g58 w HL; refine X4z ?_; intro K hK
      refine xa9 xcd xe0 _ _ rfl [_, _] i sv _ hG HL rfl ⟨g58, 0, none⟩ 1 1 (⟨x.key, false, x.val⟩ : Wrt).cells rfl (Rd.of_blk0 (es := []) (by rw [List.append_nil]; exact HL.blk (.head _))) (Wrt.len _) (Wrt.one _) (by decide) (by omega) (by omega) ?_; clear HL; intro sv' G' w hG' HL; refine X8z ?_; clear hK K; have HLd := HL.drop (G' ++ []) (sA [_, _] _); have HG' := hZ hG'; clear HL hG hG'; have HL := HLd; clear HLd; go_upto_region 12 with fail; refine Xc3 ?_; go_wp2_with fail; go_roundw
      case rel => exact ⟨i + 1, G', sv', by omega, rfl, rfl, by rw [HTK.out, List.flatMap_append]; simpa [toW] using HG'.out, HL⟩
      case measure => simp [intOf] <;> omega
    · have k4 : decide ((i : Int) < (qs.length : Int)) = false := by simp; omega
      have hin : i = qs.length := by omega
      subst hin; rw [List.take_length] at hG; clear hlt; have HG := hZ hG; clear hG; go_upto_region 9 with fail; refine Xa3 ?_; have HBW := hZ (HB2.out.trans (HL.below.mono HB2.out.size))
      have HWF : Hid (WriT D w sv.A sv.n sv.c ((qs.map toW).map Prod.fst) ((qs.map toW).map Prod.snd)) := hZ (by
        have hmm : ((qs.map toW).map Prod.fst) = qs.map fun p => (toW p).1 := by rw [List.map_map]; rfl
        refine ⟨⟨by rw [hmm]; exact HG.out.rd (L0 := []) HL, by rw [hmm, List.length_map]; exact HG.out.len.symm, HG.out.cap.1⟩, by simp, fun j hj => ?_, fun hne ad e hk => ?_, fun j hj hne ad e hk => ?_⟩
        · have hj2 : j < qs.length := by simpa using hj
          have h1 := (HPQ.out.tx _ (List.getElem_mem hj2)).below HL.below; simpa [List.getD_eq_getElem?_getD, List.getElem?_map, List.getElem?_eq_getElem hj2, toW] using h1
        · have h1 := HG.out.fars (N := w2.heap.size) (fun x hx => Nat.le_of_not_lt fun hlt => (HL.own x (by simp [hx])).1 hlt) ad e
          have h2 := HH.out.sb.lt _ hk; have h3 := HB2.out.size; omega
        · have hj2 : j < qs.length := by simpa using hj
          have h1 := HFA.out _ (List.getElem_mem hj2) ad (by simpa [toW] using e); have h2 := HH.out.sb.lt _ hk
          omega)
      have hes := xoe qs
      have hris : Rise (qs.map entP) := by
        unfold Rise; rw [List.pairwise_map]; exact HRQ.out
      have hkin : ∀ p ∈ qs.map entP, p.1 ∈ told.keys ++ xa2 es := fun p hp => by
        rcases (HSQ.out p.1 p.2).1 hp with h1 | ⟨_, h1⟩
        · exact List.mem_append.2 (.inr (by rw [← xc4]; exact List.mem_map.2 ⟨_, h1, rfl⟩))
        · exact List.mem_append.2 (.inl (xc3 h1))
      refine Xc4 ?_; intro hshare
      have hlen : ∀ p ∈ qs.map entP, p.2.length ≤ 1024 := fun p hp => by
        rcases (HSQ.out p.1 p.2).1 hp with h1 | ⟨_, h1⟩
        · obtain ⟨e, he, h2⟩ := List.mem_map.1 h1
          unfold pw at h2; injection h2 with _ h3
          split at h3
          · cases h3
          · next hg =>
            injection h3 with h3; rw [← h3]; exact HVL.out e he (by simpa using hg)
        · exact xfu HOK.out _ h1
      have hparts := xfd N d _ hd hris hshare
      have HFE : Hid (FrE N d ((qs.map toW).map Prod.fst) ((qs.map toW).map Prod.snd)) := hZ (by
        refine ⟨by rw [hes]; exact hparts, by rw [hes]; exact hlen, by rw [hes]; exact hshare, ?_⟩; have h1 := xfe hris; rw [List.map_map] at h1 ⊢; rw [List.map_map]
        exact h1)
      have hnew : newN told (esOf ((qs.map toW).map Prod.fst) ((qs.map toW).map Prod.snd)) ≤ n := by
        rw [hes, ← HEL.out]; exact new_le hti (xfe hris) HSQ.out
      have HNW := hZ (And.intro hnew (Nat.mul_le_mul_left (N + 1) hnew))
      have HTF : Hid (SpB d told es (xau N d (esOf ((qs.map toW).map Prod.fst) ((qs.map toW).map Prod.snd)))) := hZ (by
        rw [hes]; refine ⟨xdw N d _ hd hparts hlen hshare, fun k v => ?_, ?_⟩
        · rw [xfc N d _ hd hparts hlen hshare]
          exact HSQ.out k v
        · refine Nat.le_trans (xcw N d _).2 ?_
          rw [List.length_map, HEL.out]; refine Nat.le_trans HQL.out.1 (Nat.add_le_add_right ?_ n)
          cases told with
          | nil => simp [xdk]
          | leaf k v => simp [xdk, Tre.size]
          | inner a b => cases hti)
      have CF : Hid (Calls Tryz.prog 226 #[.pointer (some ⟨gs, 0, none⟩), .int .i64 zo, .int .i64 (d : Int), sv.v] w (MadeT D w gs g σ R d (xau N d (esOf ((qs.map toW).map Prod.fst) ((qs.map toW).map Prod.snd))) ((N + 1) * newN told (esOf ((qs.map toW).map Prod.fst) ((qs.map toW).map Prod.snd))))) :=
        hZ ((xia N).run d hd D w gs g σ vs vf R zo d told sv.A sv.n sv.c _ _ (HH.out.below HBW.out) HI.out HT.out hti (fun k v e => by have h1 := HOK.out; rw [e] at h1; exact h1.1) HWF.out HFE.out HRL.out (by have h1 := HG.out.len; omega) (by have h1 := HNW.out.2; have h2 := HRM.out; omega))
      clear hes hris hkin hshare hlen hparts hnew HWF HFE HL; go_upto_region 13 with fail; refine X8c ?_; intro K hK; refine Xb0 ?_; (with_reducible refine (CF.out).mono ?_); rintro e w ⟨z1, D2, vs2, vf2, σ2, rfl, hP2, hS2, hI2, hY2, hT2, hr2, hu2⟩; have HP2 := hZ hP2; have HS2 := hZ ((Stp.of_below HBW.out).trans hS2); have HI2 := hZ hI2; have HY2 := hZ hY2; have HT2 := hZ hT2; have HU2 := hZ (And.intro hr2 hu2); clear hP2 hS2 hI2 hY2 hT2 hr2 hu2; refine X2n ?_; clear hK K; go_wp2_with fail; go_ret; exact ⟨_, z1, D2, vs2, vf2, σ2, rfl, HP2.out, HS2.out, HI2.out, HY2.out.keeps HI.out, HT2.out, HU2.out.1, by have h1 := HU2.out.2; have h2 := HNW.out.2; omega, HTF.out⟩
theorem xog (M : Nat) (IH : xmt M) (d : Nat) (hd : d + (M + 1) = 256) (D : Nat → Prop) (w : World) (gs g : Nat) (σ : Sb) (vs vf : Sv) (R : List Int) (zo : Int) (l r : Tre) (A : Option Addr) (n c : Nat) (es : List WE)
    (h : StP D w gs g σ vs vf) (hI : σ.Inv R []) (ht : IsT σ zo d (Tre.inner l r)) (hlv : zo = 0 ∨ σ.Live R zo) (hok : (Tre.inner l r).Ok d) (hW : WriT D w A n c (es.map Prod.fst) (es.map Prod.snd)) (hR : xfh es) (hal : Alike d ((Tre.inner l r).keys ++ xa2 es)) (hv : ∀ e ∈ es, e.1.gone = false → e.2.length ≤ 1024) (hRl : R.length + (M + 1) ≤ 500000000) (hn : n ≤ 11) (hts : (Tre.inner l r).size ≤ 500000) (hroom : σ.used + (M + 1 + 1) * n ≤ σ.room) (hn1 : 1 ≤ n) : Calls Tryz.prog 186 #[.pointer (some ⟨gs, 0, none⟩), .int .i64 zo, .int .i64 (d : Int), .slice A n c] w (xib D w gs g σ R d (.inner l r) es ((M + 1 + 1) * n)) := by
  have hel : es.length = n := by have := hW.s.len; simpa using this
  have kn : ((n : Int) == 0) = false := nB (by omega); obtain ⟨hd256, okl, okr, hlb, hrb, hshr, _, _⟩ := hok; obtain ⟨i, hi, hzi, hci, hki, hdp, hdg, hsz, hky, hTl, hTr⟩ := ht; have ht : IsT σ zo d (.inner l r) := ⟨i, hi, hzi, hci, hki, hdp, hdg, hsz, hky, hTl, hTr⟩; have hok : (Tre.inner l r).Ok d := ⟨hd256, okl, okr, hlb, hrb, hshr, ‹_›, ‹_›⟩; have hlvz : σ.Live R zo := hlv.resolve_left (by omega); obtain ⟨m, hm⟩ : ∃ m, xbe d (es.map Prod.fst) = m := ⟨_, rfl⟩
  have hmn : m ≤ n := by
    have h1 := xj2 d (es.map Prod.fst); rw [hm, List.length_map, hel] at h1; exact h1
  have hzb := xsu hd256 hR (hal.sub fun k hk => List.mem_append.2 (.inr hk)); rw [hm] at hzb; have hsub1 : ∀ e ∈ es.take m, e ∈ es := fun e he => (List.take_sublist _ _).subset he
  have hsub2 : ∀ e ∈ es.drop m, e ∈ es := fun e he => (List.drop_sublist _ _).subset he
  have hkk : ∀ k ∈ l.keys ++ xa2 (es.take m), k ∈ (Tre.inner l r).keys ++ xa2 es := fun k hk => by
    show k ∈ (l.keys ++ r.keys) ++ _; rcases List.mem_append.1 hk with h1 | h1
    · simp [h1]
    · obtain ⟨e, he, rfl⟩ := List.mem_map.1 h1
      exact List.mem_append.2 (.inr (List.mem_map.2 ⟨e, hsub1 e he, rfl⟩))
  have hkk2 : ∀ k ∈ r.keys ++ xa2 (es.drop m), k ∈ (Tre.inner l r).keys ++ xa2 es := fun k hk => by
    show k ∈ (l.keys ++ r.keys) ++ _; rcases List.mem_append.1 hk with h1 | h1
    · simp [h1]
    · obtain ⟨e, he, rfl⟩ := List.mem_map.1 h1
      exact List.mem_append.2 (.inr (List.mem_map.2 ⟨e, hsub2 e he, rfl⟩))
  have HAL1 : Hid (Alike (d + 1) (l.keys ++ xa2 (es.take m))) := hZ ((hal.sub hkk).next (b := false) fun k hk => (List.mem_append.1 hk).elim (hlb k) (hzb.1 k)); have HAL2 : Hid (Alike (d + 1) (r.keys ++ xa2 (es.drop m))) := hZ ((hal.sub hkk2).next (b := true) fun k hk => (List.mem_append.1 hk).elim (hrb k) (hzb.2 k)); have HR1 : Hid (xfh (es.take m)) := hZ (List.Pairwise.sublist (List.take_sublist _ _) hR); have HR2 : Hid (xfh (es.drop m)) := hZ (List.Pairwise.sublist (List.drop_sublist _ _) hR); have HV1 : Hid (∀ e ∈ es.take m, e.1.gone = false → e.2.length ≤ 1024) := hZ (fun e he => hv e (hsub1 e he)); have HV2 : Hid (∀ e ∈ es.drop m, e.1.gone = false → e.2.length ≤ 1024) := hZ (fun e he => hv e (hsub2 e he)); have HES : Hid (es.take m ++ es.drop m = es) := hZ (List.take_append_drop m es); have HM := hZ hm; have HZB := hZ hzb; have HLB := hZ hlb; have HRB := hZ hrb
  have HOKL := hZ okl; have HOKR := hZ okr; have HOK := hZ hok; have hal2 := hal; rw [← List.take_append_drop m es] at hal2; have HAL := hZ hal2; have HSZ : Hid (l.size + r.size ≤ 500000 ∧ (es.take m).length + (es.drop m).length ≤ 11) := hZ ⟨hts, by rw [← List.length_append, List.take_append_drop, hel]; exact hn⟩
  have hll : σ.slots[i].nd.left = 0 ∨ σ.Live R σ.slots[i].nd.left := by
    by_cases h0 : σ.slots[i].nd.left = 0
    · exact .inl h0
    · exact .inr (.left i hi (by rw [← hzi]; exact hlvz) h0)
  have hlr : σ.slots[i].nd.right = 0 ∨ σ.Live R σ.slots[i].nd.right := by
    by_cases h0 : σ.slots[i].nd.right = 0
    · exact .inl h0
    · exact .inr (.right i hi (by rw [← hzi]; exact hlvz) h0)
  have G0 : Hid (Got σ zo σ.slots[i].nd σ.slots[i].val true) := hZ (.inl ⟨rfl, i, hzi, hi, rfl, rfl, hci⟩); have k3 : ((σ.slots[i].nd.kind : Int) == 2) = true := by rw [hki]; rfl
  obtain ⟨nd, hnd⟩ : ∃ nd, σ.slots[i].nd = nd := ⟨_, rfl⟩; obtain ⟨vl, hvl⟩ : ∃ vl, σ.slots[i].val = vl := ⟨_, rfl⟩; rw [hnd] at hTl hTr hll hlr k3 G0; rw [hvl] at G0; obtain ⟨a, ha⟩ : ∃ a, nd.left = a := ⟨_, rfl⟩; obtain ⟨b, hb⟩ : ∃ b, nd.right = b := ⟨_, rfl⟩; rw [ha] at hTl hll; rw [hb] at hTr hlr; have HTL := hZ hTl; have HTR := hZ hTr; have HLL := hZ hll; have HLR := hZ hlr; have HNA := hZ ha; have HNB := hZ hb; have HH := hZ h; have HI := hZ hI; have HT := hZ ht; have HLV := hZ hlv; have HW := hZ hW; have HRL := hZ hRl; obtain ⟨P, hP⟩ : ∃ P, (M + 1) * m = P := ⟨_, rfl⟩; obtain ⟨Q, hQ⟩ : ∃ Q, (M + 1) * (n - m) = Q := ⟨_, rfl⟩
  have hmul : (M + 1 + 1) * n = P + Q + n := by
    rw [Nat.succ_mul, ← hP, ← hQ, ← Nat.mul_add]; congr 2; omega
  rw [hmul] at hroom ⊢; have HRM : Hid (σ.used + P ≤ σ.room ∧ σ.used + P + Q ≤ σ.room ∧ σ.used + P + Q < σ.room ∧ 1 ≤ n) := hZ (by omega); have HPP := hZ hP; have HQQ := hZ hQ; have HD1 : Hid ((d : Int) + 1 = ((d + 1 : Nat) : Int)) := hZ (by omega); have HTK1 : Hid ((es.map Prod.fst).take m = (es.take m).map Prod.fst ∧ (es.map Prod.snd).take m = (es.take m).map Prod.snd ∧ (es.map Prod.fst).drop m = (es.drop m).map Prod.fst ∧ (es.map Prod.snd).drop m = (es.drop m).map Prod.snd) := hZ ⟨by rw [List.map_take], by rw [List.map_take], by rw [List.map_drop], by rw [List.map_drop]⟩; have hcap := hW.s.cap; clear h hI ht hlv hok hW hR hal hal2 hv hRl hts hroom hel hzb hsub1 hsub2 hkk hkk2 hTl hTr hll hlr hP hQ hmul hm hlb hrb okl okr hshr ha hb hlvz hzi hci hki hdp hdg hsz hky hnd hvl; have HL := Loc.start w; obtain ⟨w0, rfl⟩ := eW w; go_enter Tryz.func186, Tryz.ntmps186; go_upto_region 0 with fail
  refine X1j ?_; go_upto_region 1 with fail; refine Xa2 ?_; refine X5 ?_; refine Xbw ?_; refine X21 ?_; go_upto_region 3 with fail; refine X7l ?_; intro K hK; (with_reducible refine (xd5 (HH.out.sw.below HL.below) _ nd vl true G0.out).mono ?_); refine X4x ?_; clear hK K; intro w HL; refine xaa rfl _ (xei (b := false) _ _ rfl _ _ rfl rfl k3) ?_; refine X21 ?_; go_upto_region 14 with fail; refine X2k ?_; intro K hK; refine xac cf227 rfl _ rfl ?_; refine X1y ?_; (with_reducible refine (xk9 A n c (es.map Prod.fst) d hd256 (HW.out.s.below HL.below) (by omega)).mono ?_); refine X44 ?_; intro w HL; simp only [HM.out]; refine X2n ?_; clear hK K; go_upto_region 15 with fail; refine X2k ?_; intro K hK; refine xac cf138 rfl _ rfl ?_; refine X1y ?_; (with_reducible refine (xnv (HH.out.sw.below HL.below) _ nd vl true G0.out).mono ?_); refine X44 ?_; intro w HL
  rw [HNA.out, HNB.out]; refine X7d ?_; clear hK K; go_upto_region 16 with fail; refine X6m ?_; refine Xay ?_; refine X14 ?_; refine Xaz ?_; refine X4z ?_; intro K hK; refine xac cf186 rfl _ rfl ?_; refine X1y ?_; (with_reducible refine (IH.run (d + 1) (by omega) D _ gs g σ vs vf R a l A m c (es.take m) (HH.out.below HL.below) HI.out HTL.out HLL.out HOKL.out (by have h9 := (HW.out.step (Stp.of_below HL.below)).take m hmn; rw [HTK1.out.1, HTK1.out.2.1] at h9; exact h9) HR1.out HAL1.out HV1.out (by have := HRL.out; omega) (by omega) (by have := HSZ.out.1; omega) (by rw [HPP.out]; exact HRM.out.1)).mono ?_); rintro e w ⟨t1, z1, D1, vs1, vf1, σ1, rfl, hP1, hS1, hI1, hK1, hT1, hr1, hu1, hsp1⟩; rw [HPP.out] at hu1
  have HW1 : Hid (WriT D1 w (cutA A c m 34) (n - m) (c - m) ((es.drop m).map Prod.fst) ((es.drop m).map Prod.snd)) := hZ (by have h9 := (HW.out.step ((Stp.of_below HL.below).trans hS1)).drop m hmn; rw [HTK1.out.2.2.1, HTK1.out.2.2.2] at h9; exact h9); have HS1 := hZ ((Stp.of_below HL.below).trans hS1); have HP1 := hZ hP1; have HI1 := hZ hI1; have HK1 := hZ hK1; have HT1 := hZ hT1; have HU1 := hZ (And.intro hr1 hu1); have HSP1 := hZ hsp1; clear hP1 hS1 hI1 hK1 hT1 hr1 hu1 hsp1 HL; refine X2n ?_; clear hK K
  have HS01 : Hid (∀ z ∈ R, z ∈ (if z1 = 0 then R else z1 :: R)) := hZ (fun z hz => by
    split
    · exact hz
    · exact List.mem_cons_of_mem _ hz)
  have HTR1 := hZ (HTR.out.keep HK1.out HI1.out HS01.out HLR.out); have HLR1 : Hid (b = 0 ∨ σ1.Live (if z1 = 0 then R else z1 :: R) b) := hZ (HLR.out.imp_right fun h => HK1.out.live HS01.out h); have HTL1 := hZ (HTL.out.keep HK1.out HI1.out HS01.out HLL.out); have HLL1 : Hid (a = 0 ∨ σ1.Live (if z1 = 0 then R else z1 :: R) a) := hZ (HLL.out.imp_right fun h => HK1.out.live HS01.out h); go_upto_region 17 with fail; refine X6m ?_; refine Xay ?_; refine X14 ?_; refine Xb1 ?_; refine X4z ?_; intro K hK; refine xac cf186 rfl _ rfl ?_; refine X1y ?_
  (with_reducible refine (IH.run (d + 1) (by omega) D1 _ gs g σ1 vs1 vf1 (if z1 = 0 then R else z1 :: R) b r _ (n - m) (c - m) (es.drop m) HP1.out HI1.out HTR1.out HLR1.out HOKR.out HW1.out HR2.out HAL2.out HV2.out (by have := HRL.out; have := xff R z1; omega) (by omega) (by have := HSZ.out.1; omega) (by rw [HQQ.out]; have q1 := HU1.out; have q2 := HRM.out; omega)).mono ?_); rintro e w ⟨t2, z2, D2, vs2, vf2, σ2, rfl, hP2, hS2, hI2, hK2, hT2, hr2, hu2, hsp2⟩; rw [HQQ.out] at hu2; have HS2 := hZ (HS1.out.trans hS2); have HP2 := hZ hP2; have HI2 := hZ hI2; have HT2 := hZ hT2; have HU2 := hZ (And.intro hr2 hu2); have HSP2 := hZ hsp2
  have HS12 : Hid (∀ z ∈ (if z1 = 0 then R else z1 :: R), z ∈ (if z2 = 0 then (if z1 = 0 then R else z1 :: R) else z2 :: (if z1 = 0 then R else z1 :: R))) := hZ (fun z hz => by
    split
    · exact hz
    · exact List.mem_cons_of_mem _ hz)
  have HT12 : Hid (IsT σ2 z1 (d + 1) t1) := hZ (HT1.out.keep hK2 hI2 HS12.out (by
    by_cases h0 : z1 = 0
    · exact .inl h0
    · exact .inr (.root _ (by rw [if_neg h0]; simp))))
  have HTR2 : Hid (IsT σ2 b (d + 1) r) := hZ (HTR1.out.keep hK2 hI2 HS12.out HLR1.out); have HTL2 : Hid (IsT σ2 a (d + 1) l) := hZ (HTL1.out.keep hK2 hI2 HS12.out HLL1.out); have HK2 : Hid (σ.Keeps R σ2) := hZ (HK1.out.trans hK2 (fun i hi hl => HK1.out.live HS01.out hl)); have HSUB : Hid (∀ z ∈ R, z ∈ (if z2 = 0 then (if z1 = 0 then R else z1 :: R) else z2 :: (if z1 = 0 then R else z1 :: R))) := hZ (fun z hz => HS12.out z (HS01.out z hz)); clear hP2 hS2 hI2 hK2 hT2 hr2 hu2 hsp2; refine X2n ?_; clear hK K
  have HSH : Hid (∀ k ∈ t1.keys ++ t2.keys, ∀ k' ∈ t1.keys ++ t2.keys, ∀ e, e < d → tb k.l e = tb k'.l e) := hZ (by
    have hm : ∀ k ∈ t1.keys ++ t2.keys, k ∈ (Tre.inner l r).keys ++ xa2 (es.take m ++ es.drop m) := fun k hk => by
      have hkw : xa2 (es.take m ++ es.drop m) = xa2 (es.take m) ++ xa2 (es.drop m) := by simp [xa2]
      rw [hkw]; show k ∈ (l.keys ++ r.keys) ++ _; rcases List.mem_append.1 hk with hk | hk
      · rcases List.mem_append.1 (xi7 HSP1.out k hk) with h | h <;> simp [h]
      · rcases List.mem_append.1 (xi7 HSP2.out k hk) with h | h <;> simp [h]
    exact fun k hk k' hk' => HAL.out k (hm k hk) k' (hm k' hk'))
  have HL := Loc.start w; obtain ⟨w1, rfl⟩ := eW w; by_cases hea : z1 = a
  · by_cases heb : z2 = b
    · have ka : (z1 == a) = true := by simpa using hea
      have kb : (z2 == b) = true := by simpa using heb
      have HE1 : Hid (l = t1) := hZ (HTL2.out.uniq (by rw [← hea]; exact HT12.out)); have HE2 : Hid (r = t2) := hZ (HTR2.out.uniq (by rw [← heb]; exact HT2.out)); have HSPa : Hid (SpB (d + 1) l (es.take m) l) := hZ (by have := HSP1.out; rwa [← HE1.out] at this); have HSPb : Hid (SpB (d + 1) r (es.drop m) r) := hZ (by have := HSP2.out; rwa [← HE2.out] at this); clear hea heb; go_upto_region 18 with fail; refine X18 ?_; refine xaa rfl _ (xa3 (b := true) _ _ rfl _ _ rfl rfl ka) ?_; refine X26 ?_; refine X1m ?_; refine xad rfl _ (xa3 (b := true) _ _ rfl _ _ rfl rfl kb) ?_; refine X2a ?_; clear ka kb; by_cases hz1 : z1 = 0
      · by_cases hz2 : z2 = 0
        · have kz1 : (z1 == 0) = true := by simpa using hz1
          have kz2 : (z2 == 0) = true := by simpa using hz2
          have HI3 : Hid (σ2.Inv R []) := hZ (by have := HI2.out; rwa [if_pos hz2, if_pos hz1] at this); go_upto_region 19 with fail; refine X2k ?_; intro K hK
          refine xcx sl71 el3 2 _ rfl HL [.int .i64 z1, .int .i64 z2] (fun u hu => by
            rcases List.mem_cons.1 hu with rfl | hu
            · rfl
            · rw [List.mem_singleton.1 hu]; rfl) rfl (by decide) (by decide) (by simp [Act.eval]) ?_
          clear HL; intro gq w HL; refine hK _ _ ?_; clear hK K; refine Xt ?_; refine Xc5 ?_; refine X1e ?_; refine Xc6 ?_; intro HP3 HS3; refine Xc7 ?_; intro HGQ; replace HL := HL.less (D' := fun _ => False) (fun _ f => f.elim); clear HP2 HS2; have HQ := hZ (HL.blk (.head _)); clear HL; go_wp2_with fail; refine X63 ?_; rw [rounds_succ]; refine Xc8 ?_; intro HL; go_upto_region 20 with fail; refine Xc9 ?_; go_upto_region 21 with fail; refine Xs ?_; refine Xca ?_; refine X5 ?_; refine Xcb ?_; refine X19 ?_; go_upto_region 22 with fail; refine Xcc ?_; refine X21 ?_; clear HL; go_upto_region 24 with fail; refine X6j ?_; go_wp2_with fail; rw [rounds_succ]; refine Xc8 ?_; intro HL; go_upto_region 20 with fail; refine Xc9 ?_; go_upto_region 21 with fail; refine Xs ?_; refine Xcd ?_; refine X5 ?_; refine Xce ?_; refine X19 ?_; go_upto_region 22 with fail; refine Xcf ?_; refine X21 ?_; clear HL
          go_upto_region 24 with fail; refine X6j ?_; go_wp2_with fail; rw [rounds_succ]; go_upto_region 20 with fail; refine Xs ?_; refine Xcg ?_; refine X21 ?_
          have HKE : Hid (σ.Keeps R σ2) := hZ (by
            exact HK2.out)
          have HTO := hZ (HT.out.keep HKE.out HI3.out (fun z hz => hz) HLV.out); go_upto_region 25 with fail; refine X2k ?_; intro K hK; refine Xbv ?_; refine X1y ?_; (with_reducible refine (xf9 HP3.out R HI3.out zo d (.inner l r) HTO.out (by have := HRL.out; omega)).mono ?_); rintro e w ⟨z3, D3, vs3, vf3, σ3, rfl, hP3, hS3, hI3, hY3, hT3, hr3, hu3⟩; refine X2n ?_; clear hK K; go_wp2_with fail; go_ret; exact ⟨.inner l r, z3, D3, vs3, vf3, σ3, rfl, hP3, HS3.out.trans hS3, hI3, HKE.out.trans (hY3.keeps HI3.out) (fun i hi hl => HKE.out.live (fun z hz => hz) hl), hT3, by rw [hr3, HU2.out.1, HU1.out.1], by have q1 := HU1.out; have q3 := HU2.out; have q4 := HRM.out; omega, HES.out ▸ xi8 HOK.out HLB.out HRB.out HZB.out.1 HZB.out.2 HSPa.out HSPb.out⟩
        · have kz1 : (z1 == 0) = true := by simpa using hz1
          have kz2 : (z2 == 0) = false := by simpa using hz2
          have HI3 : Hid (σ2.Inv (z2 :: R) []) := hZ (by have := HI2.out; rwa [if_neg hz2, if_pos hz1] at this); have HTB := HT2; go_upto_region 19 with fail; refine X2k ?_; intro K hK
          refine xcx sl71 el3 2 _ rfl HL [.int .i64 z1, .int .i64 z2] (fun u hu => by
            rcases List.mem_cons.1 hu with rfl | hu
            · rfl
            · rw [List.mem_singleton.1 hu]; rfl) rfl (by decide) (by decide) (by simp [Act.eval]) ?_
          clear HL; intro gq w HL; refine hK _ _ ?_; clear hK K; refine Xt ?_; refine Xc5 ?_; refine X1e ?_; refine Xc6 ?_; intro HP3 HS3; refine Xc7 ?_; intro HGQ; replace HL := HL.less (D' := fun _ => False) (fun _ f => f.elim); clear HP2 HS2; have HQ := hZ (HL.blk (.head _)); clear HL; go_wp2_with fail; refine X63 ?_; rw [rounds_succ]; refine Xc8 ?_; intro HL; go_upto_region 20 with fail; refine Xc9 ?_; go_upto_region 21 with fail; refine Xs ?_; refine Xca ?_; refine X5 ?_; refine Xcb ?_; refine X19 ?_; go_upto_region 22 with fail; refine Xcc ?_; refine X21 ?_; clear HL; go_upto_region 24 with fail; refine X6j ?_; go_wp2_with fail; rw [rounds_succ]; refine Xc8 ?_; intro HL; go_upto_region 20 with fail; refine Xc9 ?_; go_upto_region 21 with fail; refine Xs ?_; refine Xcd ?_; refine X5 ?_; refine Xce ?_; refine X19 ?_; go_upto_region 22 with fail; refine Xch ?_; refine X21 ?_
          obtain ⟨i1, hi1, hzi1, _⟩ := HTB.out.nz hz2
          have HRc1 : Hid (∀ y, (z2 :: R).count y = R.count y + if y = (i1 : Int) + 1 then 1 else 0) := hZ (by
            intro y; rw [← hzi1]; simp only [List.count_cons, xer]
            try omega)
          go_upto_region 23 with fail; refine X2k ?_; intro K hK; refine X8m ?_; (with_reducible refine (xf8 HP3.out (z2 :: R) R HI3.out z2 i1 hzi1 hi1 HRc1.out (by have := HRL.out; simp only [qr]; omega) (by have := HRL.out; omega)).mono ?_); rintro e w ⟨m1, D1x, vs1x, vf1x, σ1x, rfl, hP, hS, hI, hK0, hu, hr, _⟩; have HPx1 := hZ hP; have HSx1 := hZ (HS3.out.trans hS); have HI5 := hZ hI; have HKx1 := hZ hK0; have HUx1 := hZ (And.intro hr hu)
          have HGQx1 : Hid (¬ D1x gq) := hZ (fun hk => by
            rcases hS.new _ hk with h1 | h1
            · exact HGQ.out h1
            · have := HQ.out.lt; omega)
          replace HQ := hZ (HQ.out.fr hS.fr HGQ.out); clear hP hS hI hK0 hu hr HL; refine X22 ?_; clear hK K; go_upto_region 24 with fail; refine X6j ?_; go_wp2_with fail; rw [rounds_succ]; go_upto_region 20 with fail; refine Xs ?_; refine Xcg ?_; refine X21 ?_
          have HKE : Hid (σ.Keeps R σ1x) := hZ (by
            exact HK2.out.trans HKx1.out (fun i hi hl => HK2.out.live (fun z hz => hz) hl))
          have HTO := hZ (HT.out.keep HKE.out HI5.out (fun z hz => hz) HLV.out); go_upto_region 25 with fail; refine X2k ?_; intro K hK; refine Xbv ?_; refine X1y ?_; (with_reducible refine (xf9 HPx1.out R HI5.out zo d (.inner l r) HTO.out (by have := HRL.out; omega)).mono ?_); rintro e w ⟨z3, D3, vs3, vf3, σ3, rfl, hP3, hS3, hI3, hY3, hT3, hr3, hu3⟩; refine X2n ?_; clear hK K; go_wp2_with fail; go_ret; exact ⟨.inner l r, z3, D3, vs3, vf3, σ3, rfl, hP3, HSx1.out.trans hS3, hI3, HKE.out.trans (hY3.keeps HI5.out) (fun i hi hl => HKE.out.live (fun z hz => hz) hl), hT3, by rw [hr3, HUx1.out.1, HU2.out.1, HU1.out.1], by have q1 := HU1.out; have q3 := HU2.out; have q4 := HRM.out; have qHUx1 := HUx1.out; omega, HES.out ▸ xi8 HOK.out HLB.out HRB.out HZB.out.1 HZB.out.2 HSPa.out HSPb.out⟩
      · by_cases hz2 : z2 = 0
        · have kz1 : (z1 == 0) = false := by simpa using hz1
          have kz2 : (z2 == 0) = true := by simpa using hz2
          have HI3 : Hid (σ2.Inv (z1 :: R) []) := hZ (by have := HI2.out; rwa [if_pos hz2, if_neg hz1] at this); have HTA := HT12; go_upto_region 19 with fail; refine X2k ?_; intro K hK
          refine xcx sl71 el3 2 _ rfl HL [.int .i64 z1, .int .i64 z2] (fun u hu => by
            rcases List.mem_cons.1 hu with rfl | hu
            · rfl
            · rw [List.mem_singleton.1 hu]; rfl) rfl (by decide) (by decide) (by simp [Act.eval]) ?_
          clear HL; intro gq w HL; refine hK _ _ ?_; clear hK K; refine Xt ?_; refine Xc5 ?_; refine X1e ?_; refine Xc6 ?_; intro HP3 HS3; refine Xc7 ?_; intro HGQ; replace HL := HL.less (D' := fun _ => False) (fun _ f => f.elim); clear HP2 HS2; have HQ := hZ (HL.blk (.head _)); clear HL; go_wp2_with fail; refine X63 ?_; rw [rounds_succ]; refine Xc8 ?_; intro HL; go_upto_region 20 with fail; refine Xc9 ?_; go_upto_region 21 with fail; refine Xs ?_; refine Xca ?_; refine X5 ?_; refine Xcb ?_; refine X19 ?_; go_upto_region 22 with fail; refine Xci ?_; refine X21 ?_; obtain ⟨i0, hi0, hzi0, _⟩ := HTA.out.nz hz1
          have HRc0 : Hid (∀ y, (z1 :: R).count y = R.count y + if y = (i0 : Int) + 1 then 1 else 0) := hZ (by
            intro y; rw [← hzi0]; simp only [List.count_cons, xer]
            try omega)
          go_upto_region 23 with fail; refine X2k ?_; intro K hK; refine X8m ?_; (with_reducible refine (xf8 HP3.out (z1 :: R) R HI3.out z1 i0 hzi0 hi0 HRc0.out (by have := HRL.out; simp only [qr]; omega) (by have := HRL.out; omega)).mono ?_); rintro e w ⟨m0, D0x, vs0x, vf0x, σ0x, rfl, hP, hS, hI, hK0, hu, hr, _⟩; have HPx0 := hZ hP; have HSx0 := hZ (HS3.out.trans hS); have HI5 := hZ hI; have HKx0 := hZ hK0; have HUx0 := hZ (And.intro hr hu)
          have HGQx0 : Hid (¬ D0x gq) := hZ (fun hk => by
            rcases hS.new _ hk with h1 | h1
            · exact HGQ.out h1
            · have := HQ.out.lt; omega)
          replace HQ := hZ (HQ.out.fr hS.fr HGQ.out); clear hP hS hI hK0 hu hr HL; refine X22 ?_; clear hK K; go_upto_region 24 with fail; refine X6j ?_; go_wp2_with fail; rw [rounds_succ]; refine Xc8 ?_; intro HL; go_upto_region 20 with fail; refine Xc9 ?_; go_upto_region 21 with fail; refine Xs ?_; refine Xcd ?_; refine X5 ?_; refine Xce ?_; refine X19 ?_; go_upto_region 22 with fail; refine Xcf ?_; refine X21 ?_; clear HL; go_upto_region 24 with fail; refine X6j ?_; go_wp2_with fail; rw [rounds_succ]; go_upto_region 20 with fail; refine Xs ?_; refine Xcg ?_; refine X21 ?_
          have HKE : Hid (σ.Keeps R σ0x) := hZ (by
            exact HK2.out.trans HKx0.out (fun i hi hl => HK2.out.live (fun z hz => hz) hl))
          have HTO := hZ (HT.out.keep HKE.out HI5.out (fun z hz => hz) HLV.out); go_upto_region 25 with fail; refine X2k ?_; intro K hK; refine Xbv ?_; refine X1y ?_; (with_reducible refine (xf9 HPx0.out R HI5.out zo d (.inner l r) HTO.out (by have := HRL.out; omega)).mono ?_); rintro e w ⟨z3, D3, vs3, vf3, σ3, rfl, hP3, hS3, hI3, hY3, hT3, hr3, hu3⟩; refine X2n ?_; clear hK K; go_wp2_with fail; go_ret; exact ⟨.inner l r, z3, D3, vs3, vf3, σ3, rfl, hP3, HSx0.out.trans hS3, hI3, HKE.out.trans (hY3.keeps HI5.out) (fun i hi hl => HKE.out.live (fun z hz => hz) hl), hT3, by rw [hr3, HUx0.out.1, HU2.out.1, HU1.out.1], by have q1 := HU1.out; have q3 := HU2.out; have q4 := HRM.out; have qHUx0 := HUx0.out; omega, HES.out ▸ xi8 HOK.out HLB.out HRB.out HZB.out.1 HZB.out.2 HSPa.out HSPb.out⟩
        · have kz1 : (z1 == 0) = false := by simpa using hz1
          have kz2 : (z2 == 0) = false := by simpa using hz2
          have HI3 : Hid (σ2.Inv (z2 :: z1 :: R) []) := hZ (by have := HI2.out; rwa [if_neg hz2, if_neg hz1] at this); have HTA := HT12; have HTB := HT2; go_upto_region 19 with fail; refine X2k ?_; intro K hK
          refine xcx sl71 el3 2 _ rfl HL [.int .i64 z1, .int .i64 z2] (fun u hu => by
            rcases List.mem_cons.1 hu with rfl | hu
            · rfl
            · rw [List.mem_singleton.1 hu]; rfl) rfl (by decide) (by decide) (by simp [Act.eval]) ?_
          clear HL; intro gq w HL; refine hK _ _ ?_; clear hK K; refine Xt ?_; refine Xc5 ?_; refine X1e ?_; refine Xc6 ?_; intro HP3 HS3; refine Xc7 ?_; intro HGQ; replace HL := HL.less (D' := fun _ => False) (fun _ f => f.elim); clear HP2 HS2; have HQ := hZ (HL.blk (.head _)); clear HL; go_wp2_with fail; refine X63 ?_; rw [rounds_succ]; refine Xc8 ?_; intro HL; go_upto_region 20 with fail; refine Xc9 ?_; go_upto_region 21 with fail; refine Xs ?_; refine Xca ?_; refine X5 ?_; refine Xcb ?_; refine X19 ?_; go_upto_region 22 with fail; refine Xci ?_; refine X21 ?_; obtain ⟨i0, hi0, hzi0, _⟩ := HTA.out.nz hz1
          have HRc0 : Hid (∀ y, (z2 :: z1 :: R).count y = (z2 :: R).count y + if y = (i0 : Int) + 1 then 1 else 0) := hZ (by
            intro y; rw [← hzi0]; simp only [List.count_cons, xer]
            try omega)
          go_upto_region 23 with fail; refine X2k ?_; intro K hK; refine X8m ?_; (with_reducible refine (xf8 HP3.out (z2 :: z1 :: R) (z2 :: R) HI3.out z1 i0 hzi0 hi0 HRc0.out (by have := HRL.out; simp only [qr]; omega) (by have := HRL.out; simp only [qr]; omega)).mono ?_); rintro e w ⟨m0, D0x, vs0x, vf0x, σ0x, rfl, hP, hS, hI, hK0, hu, hr, _⟩; have HPx0 := hZ hP; have HSx0 := hZ (HS3.out.trans hS); have HI4 := hZ hI; have HKx0 := hZ hK0; have HUx0 := hZ (And.intro hr hu)
          have HGQx0 : Hid (¬ D0x gq) := hZ (fun hk => by
            rcases hS.new _ hk with h1 | h1
            · exact HGQ.out h1
            · have := HQ.out.lt; omega)
          replace HQ := hZ (HQ.out.fr hS.fr HGQ.out); clear hP hS hI hK0 hu hr HL; refine X22 ?_; clear hK K; have HTB := hZ (HTB.out.keep HKx0.out HI4.out (fun z hz => hz) (.inr (.root _ (by simp)))); go_upto_region 24 with fail; refine X6j ?_; go_wp2_with fail; rw [rounds_succ]; refine Xc8 ?_; intro HL; go_upto_region 20 with fail; refine Xc9 ?_; go_upto_region 21 with fail; refine Xs ?_; refine Xcd ?_; refine X5 ?_; refine Xce ?_; refine X19 ?_; go_upto_region 22 with fail; refine Xch ?_; refine X21 ?_; obtain ⟨i1, hi1, hzi1, _⟩ := HTB.out.nz hz2
          have HRc1 : Hid (∀ y, (z2 :: R).count y = R.count y + if y = (i1 : Int) + 1 then 1 else 0) := hZ (by
            intro y; rw [← hzi1]; simp only [List.count_cons, xer]
            try omega)
          go_upto_region 23 with fail; refine X2k ?_; intro K hK; refine X8m ?_; (with_reducible refine (xf8 HPx0.out (z2 :: R) R HI4.out z2 i1 hzi1 hi1 HRc1.out (by have := HRL.out; simp only [qr]; omega) (by have := HRL.out; omega)).mono ?_); rintro e w ⟨m1, D1x, vs1x, vf1x, σ1x, rfl, hP, hS, hI, hK0, hu, hr, _⟩; have HPx1 := hZ hP; have HSx1 := hZ (HSx0.out.trans hS); have HI5 := hZ hI; have HKx1 := hZ hK0; have HUx1 := hZ (And.intro hr hu)
          have HGQx1 : Hid (¬ D1x gq) := hZ (fun hk => by
            rcases hS.new _ hk with h1 | h1
            · exact HGQx0.out h1
            · have := HQ.out.lt; omega)
          replace HQ := hZ (HQ.out.fr hS.fr HGQx0.out); clear hP hS hI hK0 hu hr HL; refine X22 ?_; clear hK K; go_upto_region 24 with fail; refine X6j ?_; go_wp2_with fail; rw [rounds_succ]; go_upto_region 20 with fail; refine Xs ?_; refine Xcg ?_; refine X21 ?_
          have HKE : Hid (σ.Keeps R σ1x) := hZ (by
            have q1 := HK2.out.trans HKx0.out (fun i hi hl => HK2.out.live (fun z hz => List.mem_cons_of_mem _ hz) hl)
            exact q1.trans HKx1.out (fun i hi hl => q1.live (fun z hz => hz) hl))
          have HTO := hZ (HT.out.keep HKE.out HI5.out (fun z hz => hz) HLV.out); go_upto_region 25 with fail; refine X2k ?_; intro K hK; refine Xbv ?_; refine X1y ?_; (with_reducible refine (xf9 HPx1.out R HI5.out zo d (.inner l r) HTO.out (by have := HRL.out; omega)).mono ?_); rintro e w ⟨z3, D3, vs3, vf3, σ3, rfl, hP3, hS3, hI3, hY3, hT3, hr3, hu3⟩; refine X2n ?_; clear hK K; go_wp2_with fail; go_ret; exact ⟨.inner l r, z3, D3, vs3, vf3, σ3, rfl, hP3, HSx1.out.trans hS3, hI3, HKE.out.trans (hY3.keeps HI5.out) (fun i hi hl => HKE.out.live (fun z hz => hz) hl), hT3, by rw [hr3, HUx1.out.1, HUx0.out.1, HU2.out.1, HU1.out.1], by have q1 := HU1.out; have q3 := HU2.out; have q4 := HRM.out; have qHUx0 := HUx0.out; have qHUx1 := HUx1.out; omega, HES.out ▸ xi8 HOK.out HLB.out HRB.out HZB.out.1 HZB.out.2 HSPa.out HSPb.out⟩
    · have ka : (z1 == a) = true := by simpa using hea
      have kb : (z2 == b) = false := by simpa using heb
      clear hea heb; go_upto_region 18 with fail; refine X18 ?_; refine xaa rfl _ (xa3 (b := true) _ _ rfl _ _ rfl rfl ka) ?_; refine X26 ?_; refine X1m ?_; refine xad rfl _ (xa3 (b := false) _ _ rfl _ _ rfl rfl kb) ?_; refine X2a ?_; go_upto_region 26 with fail; refine X8c ?_; intro K hK; refine xac cf228 rfl _ rfl ?_; refine X1y ?_; (with_reducible refine (xh5 HP2.out _ R HI2.out d hd256 z1 z2 t1 t2 HT12.out HT2.out HSP1.out.ok HSP2.out.ok (xgc HSP1.out HLB.out HZB.out.1) (xgc HSP2.out HRB.out HZB.out.2) HSH.out (xmq R z1 z2) (by have := HRL.out; have := xff R z1; have := xff (if z1 = 0 then R else z1 :: R) z2; omega) (by have q1 := HU1.out; have q2 := HRM.out; have q3 := HU2.out; omega) (by have q1 := HSP1.out.sz; have q2 := HSP2.out.sz; have q3 := HSZ.out; omega)).mono ?_)
      rintro e w ⟨z3, D3, vs3, vf3, σ3, rfl, hP3, hS3, hI3, hY3, hT3, hr3, hu3⟩; refine X2n ?_; clear hK K; go_wp2_with fail; go_ret; exact ⟨xci t1 t2, z3, D3, vs3, vf3, σ3, rfl, hP3, HS2.out.trans hS3, hI3, HK2.out.trans (hY3.keeps HI2.out) (fun i hi hl => HK2.out.live (fun z hz => HSUB.out z hz) hl), hT3, by rw [hr3, HU2.out.1, HU1.out.1], by have q1 := HU1.out; have q3 := HU2.out; have q4 := HRM.out; omega, HES.out ▸ xq5 hd256 HAL.out HLB.out HRB.out HZB.out.1 HZB.out.2 HSP1.out HSP2.out⟩
  · have ka : (z1 == a) = false := by simpa using hea
    clear hea; go_upto_region 18 with fail; refine X18 ?_; refine xaa rfl _ (xa3 (b := false) _ _ rfl _ _ rfl rfl ka) ?_; refine X14 ?_; refine no_implicit_lambda% (X2f ?_); refine no_implicit_lambda% (X2e ?_); refine X29 ?_; go_upto_region 26 with fail; refine X8c ?_; intro K hK; refine xac cf228 rfl _ rfl ?_; refine X1y ?_; (with_reducible refine (xh5 HP2.out _ R HI2.out d hd256 z1 z2 t1 t2 HT12.out HT2.out HSP1.out.ok HSP2.out.ok (xgc HSP1.out HLB.out HZB.out.1) (xgc HSP2.out HRB.out HZB.out.2) HSH.out (xmq R z1 z2) (by have := HRL.out; have := xff R z1; have := xff (if z1 = 0 then R else z1 :: R) z2; omega) (by have q1 := HU1.out; have q2 := HRM.out; have q3 := HU2.out; omega) (by have q1 := HSP1.out.sz; have q2 := HSP2.out.sz; have q3 := HSZ.out; omega)).mono ?_); rintro e w ⟨z3, D3, vs3, vf3, σ3, rfl, hP3, hS3, hI3, hY3, hT3, hr3, hu3⟩
    refine X2n ?_; clear hK K; go_wp2_with fail; go_ret; exact ⟨xci t1 t2, z3, D3, vs3, vf3, σ3, rfl, hP3, HS2.out.trans hS3, hI3, HK2.out.trans (hY3.keeps HI2.out) (fun i hi hl => HK2.out.live (fun z hz => HSUB.out z hz) hl), hT3, by rw [hr3, HU2.out.1, HU1.out.1], by have q1 := HU1.out; have q3 := HU2.out; have q4 := HRM.out; omega, HES.out ▸ xq5 hd256 HAL.out HLB.out HRB.out HZB.out.1 HZB.out.2 HSP1.out HSP2.out⟩
theorem xj5 (N : Nat) (ih : ∀ M, N = M + 1 → xmt M) : xmt N := by
  refine ⟨fun d hd D w gs g σ vs vf R zo told A n c es h hI ht hlv hok hW hR hal hv hRl hn hts hroom => ?_⟩; by_cases hn0 : n = 0
  · subst hn0
    have he : es = [] := by have := hW.s.len; simpa using this
    subst he; exact xpy N d hd D w gs g σ vs vf R zo told A c h hI ht hok hRl
  · rcases told with _ | ⟨k, v⟩ | ⟨l, r⟩
    · exact xsv N d hd D w gs g σ vs vf R zo A n c es h hI ht hlv hok hW hR hal hv hRl hn hts hroom (by omega)
    · exact xpz N d hd D w gs g σ vs vf R zo k v A n c es h hI ht hlv hok hW hR hal hv hRl hn hts hroom (by omega)
    · rcases N with _ | M
      · have h9 := hok.1; exact absurd h9 (by omega)
      · exact xog M (ih M rfl) d hd D w gs g σ vs vf R zo l r A n c es h hI ht hlv hok hW hR hal hv hRl hn hts hroom (by omega)
theorem xlf : ∀ N, xmt N
  | 0 => xj5 0 fun M h => by omega
  | N + 1 => xj5 (N + 1) fun M h => by
    obtain rfl : N = M := by omega
    exact xlf N
end Go.Proofs.YtkjjdgnkelchfaaGreat
