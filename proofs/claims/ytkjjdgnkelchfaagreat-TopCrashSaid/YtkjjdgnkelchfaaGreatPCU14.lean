import Derived.Test.YtkjjdgnkelchfaaGreatPCU13
set_option linter.unusedSimpArgs false
set_option linter.unusedVariables false
set_option maxRecDepth 100000
set_option maxHeartbeats 16000000
namespace Go.Proofs.YtkjjdgnkelchfaaGreat
open Go Go.RowKit
abbrev PE := Par × List UInt8
structure PrT (w : World) (v : Sv) (ps : List PE) : Prop where
  rd : Rd w v.A ((ps.map Prod.fst).flatMap Par.cells)
  len : ps.length = v.n
  cap : v.n ≤ v.c
  tx : ∀ p ∈ ps, Tx w p.1.val.A p.1.val.n p.1.val.c p.2
def toW (p : PE) : WE := (⟨p.1.key, false, p.1.val⟩, p.2)
def gv (e : WE) : Option Ent := if e.1.gone then none else some (e.1.key, e.2)
def entP (p : PE) : Ent := (p.1.key, p.2)
theorem PrT.below {w w' : World} {v : Sv} {ps : List PE} (h : PrT w v ps) (hb : Below w.heap.size w w') : PrT w' v ps := ⟨h.rd.below hb, h.len, h.cap, fun p hp => (h.tx p hp).below hb⟩
theorem PrT.at_ {w : World} {v : Sv} {ps : List PE} (h : PrT w v ps) (i : Nat) (hi : i < ps.length) : ∃ ad, v.A = some ad ∧ Rd w (some (ad.add (i * 33))) ps[i].1.cells := by
  have hl : (ps.map Prod.fst).length = ps.length := by simp
  obtain ⟨ad, e, _⟩ := h.rd (by rw [xcc Par.len]; omega); refine ⟨ad, e, ?_⟩; have h2 := h.rd.cut (i * 33) 33; rw [e] at h2; have h3 := xeo (f := Par.cells) Par.len (ps.map Prod.fst) [] i (by omega); rw [List.append_nil] at h3; rw [h3, List.getElem_map] at h2; exact h2
structure OvG (w w' : World) (all : List WE) (v : Sv) (qs : List PE) : Prop where
  pr : PrT w' v qs
  fA : ∀ ad, v.A = some ad → w.heap.size ≤ ad.block
  fT : ∀ q ∈ qs, ∀ ad, q.1.val.A = some ad → w.heap.size ≤ ad.block
  rise : qs.Pairwise fun p q => nOf p.1.key.l < nOf q.1.key.l
  spec : ∀ k t, (k, t) ∈ qs.map entP ↔ xce (all.map pw) k = some (some t)
  len : qs.length ≤ all.length
  bel : Below w.heap.size w w'
def OvO (w : World) (all : List WE) (e : Ending) (w' : World) : Prop := ∃ v qs, e = .returned (Sv.v v) ∧ OvG w w' all v qs
theorem gv_spec (es : List WE) (k : D32) (t : List UInt8) : (k, t) ∈ es.filterMap gv ↔ (k, some t) ∈ es.map pw := by
  rw [List.mem_filterMap, List.mem_map]; constructor
  · rintro ⟨e, he, h⟩
    refine ⟨e, he, ?_⟩; unfold gv at h; unfold pw
    split at h
    · cases h
    · next hg =>
      rw [if_neg hg]; injection h with h; injection h with h1 h2; rw [h1, h2]
  · rintro ⟨e, he, h⟩
    refine ⟨e, he, ?_⟩; unfold pw at h; unfold gv; injection h with h1 h2
    split at h2
    · cases h2
    · next hg =>
      rw [if_neg hg]; injection h2 with h2; rw [h1, h2]
theorem bs222 : BS Tryz.prog 222 Wrt.z.cells [(0, 32), (32, 1), (33, 1)] := BS.of Tryz.underlying222 (by kernel_rfl) (by kernel_rfl)
theorem bd222_02 (x0 : D32) (x1 : Sv) : Instr.fill (fun x => [(0, 32), (32, 1), (33, 1)].toArray[x]?) Wrt.z.cells.toArray [(0, .agg x0.c.toArray), (2, x1.v)] = some ((⟨x0, false, x1⟩ : Wrt)).cells.toArray := by
  rw [show Wrt.z = (⟨D32.z, false, Sv.nil⟩ : Wrt) from rfl]; refine xaj (vs := x0.c) rfl (rfl) (D32.cl _) (by rw [Wrt.len]; decide) ?_; rw [Wrt.s_key]; refine xaj (vs := [x1.v]) rfl (rfl) (rfl) (by rw [Wrt.len]; decide) ?_; rw [xbj _ _ _ (by rw [Wrt.len]; decide)]; rw [show (⟨x0, false, Sv.nil⟩ : Wrt).cells.set 33 (x1.v) = (⟨x0, false, x1⟩ : Wrt).cells from Wrt.s_val (⟨x0, false, Sv.nil⟩ : Wrt) (x1)]; rfl
theorem WriT.free {D : Nat → Prop} {w : World} {A : Option Addr} {n c : Nat} {ws : List Wrt} {ls : List (List UInt8)} (h : WriT D w A n c ws ls) : WriT (fun _ => False) w A n c ws ls :=
  ⟨h.s, h.len, h.tx, fun _ _ _ f => f, fun _ _ _ _ _ f => f⟩
theorem xiq (w : World) (mv : Sv) (ps : List PE) (hp : PrT w mv ps) (A : Option Addr) (n c : Nat) (es : List WE) (h : WriT (fun _ => False) w A n c (es.map Prod.fst) (es.map Prod.snd)) (hn : ps.length + n ≤ 12) (hbg : ∀ e ∈ ps.map toW ++ es, e.1.gone = false → e.2.length ≤ 1048576) :
    Calls Tryz.prog 225 #[mv.v, .slice A n c] w (OvO w (ps.map toW ++ es)) := by
  have hel : es.length = n := by have := h.s.len; simpa using this
  have HW := hZ h; have HP := hZ hp; have HEL := hZ hel; have HPL : Hid (mv.n = ps.length) := hZ hp.len.symm; have HBA := hZ hbg; clear h hel hp hbg; have HL := Loc.start w; obtain ⟨w0, rfl⟩ := eW w; go_enter Tryz.func225, Tryz.ntmps225; go_upto_region 0 with fail; refine X1j ?_; go_upto_region 1 with fail; refine X1j ?_; go_upto_region 2 with fail; refine X11 ?_; refine xaa rfl _ (xav Tryz.underlying55 _ rfl mv ps.length rfl HPL.out) ?_; refine X1e ?_; go_wp2_with fail
  go_loopw [5, 13] (fun v z wr => ∃ (i : Nat) (G : List (Nat × Nat × List Value)) (sv : Sv), i ≤ ps.length ∧ v = sv.v ∧ z = .int .i64 (i : Int) ∧ Gw 222 34 G sv i (((ps.take i).map fun p => (toW p).1).flatMap Wrt.cells) ∧ Loc w0 (Old w0) (G ++ []) wr) (fun _ z _ => (ps.length - intOf z).toNat)
  case atStart => exact ⟨0, [], Sv.nil, Nat.zero_le _, rfl, rfl, Gw.nil 222 34, HL⟩
  case round => as_aux_lemma =>
    clear HL; obtain ⟨i, G, sv, hi, rfl, rfl, hG, HL⟩ := hrel; obtain ⟨w, rfl⟩ := eW wr; by_cases hlt : i < ps.length
    · have k4 : decide ((i : Int) < (ps.length : Int)) = true := by simp; omega
      refine X9a ?_; intro HI; obtain ⟨ad, hA, hrd0⟩ := HP.out.at_ i hlt; have HSV : Hid (mv.v = .slice (some ad) mv.n mv.c) := hZ (by unfold Sv.v; rw [hA]); have HRD : ∀ (L : List (Nat × Nat × List Value)) (W : World), Loc w0 (Old w0) L W → Hid (Rd W (some (ad.add (i * 33))) ps[i].1.cells) := fun L W hW => hZ (hrd0.below hW.below)
      have HTK : Hid (((ps.take (i + 1)).map fun p => (toW p).1) = ((ps.take i).map fun p => (toW p).1) ++ [(toW ps[i]).1]) := hZ (by rw [List.take_succ_eq_append_getElem hlt, List.map_append]; rfl); have hin : i < mv.n := by rw [HPL.out]; exact hlt
      clear hA hrd0; obtain ⟨⟨x, lx⟩, hx⟩ : ∃ x, ps[i] = x := ⟨_, rfl⟩; rw [hx] at HRD HTK; clear hx; go_upto_region 3 with fail; refine Xa3 ?_; go_upto_region 4 with fail; refine Xs ?_; refine xaa rfl _ (xbf sl55 (.tmp 11) _ rfl ad mv.n mv.c i .i64 HSV.out rfl hin) ?_; refine X5 ?_; refine Xap ?_; refine X5 ?_; refine xai zr61 rfl rfl HL ?_; clear HL; intro g7 w HL; refine X5 ?_; refine Xaq ?_; refine X35 ?_; clear HL; intro w HL; go_upto_region 5 with fail; refine X11 ?_; refine Xar ?_; refine X5 ?_; refine Xas ?_; refine X5 ?_; refine Xat ?_; refine X5 ?_; refine Xau ?_; refine X5 ?_; refine Xav ?_; refine X5 ?_; refine xb7 xcd xe0 (by decide) rfl _ rfl HL _ rfl (Wrt.len _) ?_; clear HL; intro g23 w HL; refine X4z ?_; intro K hK
      refine xa9 xcd xe0 _ _ rfl [_, _] i sv _ hG HL rfl ⟨g23, 0, none⟩ 1 1 (⟨x.key, false, x.val⟩ : Wrt).cells rfl (Rd.of_blk0 (es := []) (by rw [List.append_nil]; exact HL.blk (.head _))) (Wrt.len _) (Wrt.one _) (by decide) (by omega) (by omega) ?_; clear HL; intro sv' G' w hG' HL; refine X8z ?_; clear hK K; have HLd := HL.drop (G' ++ []) (sA [_, _] _); have HG' := hZ hG'; clear HL hG hG'; have HL := HLd; clear HLd; go_upto_region 6 with fail; refine Xaf ?_; go_wp2_with fail; go_roundw
      case rel => exact ⟨i + 1, G', sv', by omega, rfl, rfl, by rw [HTK.out, List.flatMap_append]; simpa [toW] using HG'.out, HL⟩
      case measure => simp [intOf] <;> omega
    · have k4 : decide ((i : Int) < (ps.length : Int)) = false := by simp; omega
      have hin : i = ps.length := by omega
      subst hin; rw [List.take_length] at hG; clear hlt; go_upto_region 3 with fail; refine Xa3 ?_; go_upto_region 7 with fail; refine X1j ?_; obtain ⟨all, hall⟩ : ∃ all, ps.map toW ++ es = all := ⟨_, rfl⟩; have HALL := hZ hall; have HAL : Hid (all.length = ps.length + n) := hZ (by rw [← hall, List.length_append, List.length_map, HEL.out]); have HAF : Hid (((ps.map fun p => (toW p).1).flatMap Wrt.cells) ++ (es.map Prod.fst).flatMap Wrt.cells = (all.map Prod.fst).flatMap Wrt.cells) := hZ (by rw [← hall, List.map_append, List.flatMap_append, List.map_map]; rfl)
      have HTA : Hid (∀ e ∈ all, Tx w0 e.1.val.A e.1.val.n e.1.val.c e.2) := hZ (fun e he => by
        rw [← hall] at he; rcases List.mem_append.1 he with he | he
        · obtain ⟨p, hp, rfl⟩ := List.mem_map.1 he
          exact HP.out.tx p hp
        · obtain ⟨j, hj, rfl⟩ := List.getElem_of_mem he
          have h1 := HW.out.tx j (by simpa using hj)
          simpa [List.getD_eq_getElem?_getD, List.getElem?_map, List.getElem?_eq_getElem hj] using h1)
      rw [hall]; clear hall; go_upto_region 8 with fail; refine X2k ?_; intro K hK
      refine xem xcd xe0 _ _ rfl [] ps.length sv _ hG HL rfl A n c ((es.map Prod.fst).flatMap Wrt.cells) rfl (HW.out.s.rd.below HL.below) (by rw [xcc Wrt.len, List.length_map, HEL.out]) (fun u hu => by
        obtain ⟨x, _, hx⟩ := List.mem_flatMap.1 hu
        exact Wrt.one x u hx) (by omega) (by omega) ?_
      clear HL hG; intro sv2 G2 w hG2 HL; refine hK _ _ ?_; clear hK K; rw [HAF.out] at hG2; have HB1 := hZ HL.below
      have CLa : Hid (Calls Tryz.prog 187 #[sv2.v] w (LastO (fun _ => False) w all)) := hZ (xmm (fun _ => False) w sv2.A sv2.n sv2.c all ⟨⟨hG2.rd (L0 := []) HL, by rw [List.length_map, HAL.out]; exact hG2.len.symm, hG2.cap.1⟩, by simp, fun i hi => by
        have hi2 : i < all.length := by simpa using hi
        have h1 := (HTA.out _ (List.getElem_mem hi2)).below HB1.out
        simpa [List.getD_eq_getElem?_getD, List.getElem?_map, List.getElem?_eq_getElem hi2] using h1, fun _ _ _ f => f, fun _ _ _ _ _ f => f⟩ (by rw [hG2.len]; exact hn) (fun k f => f.elim))
      clear hG2; refine Xaw ?_; intro K hK; refine xac cf187 rfl _ rfl ?_; refine X1y ?_; (with_reducible refine (CLa.out).mono ?_); rintro e w ⟨v3, es3, rfl, hW3, hR3, hS3, hL3, hb3, hf3⟩; have HB := hZ (HB1.out.trans (hb3.mono HL.fr.size)); have HF3 : Hid (∀ ad, v3.A = some ad → w0.heap.size ≤ ad.block) := hZ (fun ad e => Nat.le_trans HL.fr.size (hf3 ad e)); have HLn := (HL.drop [] (List.nil_sublist _)).after hb3; clear HL hb3 hf3 CLa HB1; have HL := HLn; clear HLn; have HW3 := hZ hW3; have HR3 := hZ hR3; have HS3 := hZ hS3; have HL3 := hZ hL3; have HN3 : Hid (v3.n = es3.length) := hZ (by have := hW3.s.len; simpa using this.symm); clear hW3 hR3 hS3 hL3; refine X5i ?_; clear hK K; refine xaa rfl _ (xav Tryz.underlying220 _ rfl v3 es3.length rfl HN3.out) ?_; refine X1e ?_; obtain ⟨w1, rfl⟩ := eW w
      have HBG : Hid (∀ e ∈ es3, e.1.gone = false → e.2.length ≤ 1048576) := hZ (fun e he hg => by
        have h1 : pw e ∈ es3.map pw := List.mem_map_of_mem he; have h2 : pw e = (e.1.key, some e.2) := by unfold pw; rw [hg]; rfl
        rw [h2, HS3.out] at h1; obtain ⟨e1, h3, h4⟩ := List.mem_map.1 (xh8 _ h1); unfold pw at h4; injection h4 with _ h5
        split at h5
        · cases h5
        · next hg1 =>
          injection h5 with h5; rw [← h5]; rw [← HALL.out] at h3
          exact HBA.out e1 h3 (by simpa using hg1))
      have hlt3 : es3.length ≤ 12 := by have h1 := HL3.out; have h2 := HAL.out; omega
      go_wp2_with fail
      go_loopw [8, 31] (fun v z wr => ∃ (i : Nat) (qs : List PE) (G GV : List (Nat × Nat × List Value)) (sv : Sv), i ≤ es3.length ∧ v = sv.v ∧ z = .int .i64 (i : Int) ∧ qs.length ≤ i ∧ Gw 61 33 G sv qs.length ((qs.map Prod.fst).flatMap Par.cells) ∧ Gws GV (qs.map fun q => q.1.val) (qs.map Prod.snd) ∧ qs.map entP = (es3.take i).filterMap gv ∧ Loc w1 (Rest w1 []) (G ++ (GV ++ [])) wr) (fun _ z _ => (es3.length - intOf z).toNat)
      case atStart => exact ⟨0, [], [], [], Sv.nil, Nat.zero_le _, rfl, rfl, Nat.le_refl _, Gw.nil 61 33, .nil, rfl, HL⟩
      case round => as_aux_lemma =>
        clear HL HW HP; obtain ⟨i, qs, G, GV, sv, hi, rfl, rfl, hql, hG, hGV, hqs, HL⟩ := hrel; obtain ⟨w, rfl⟩ := eW wr; have HQS := hZ hqs; clear hqs; by_cases hlt : i < es3.length
        · have k4 : decide ((i : Int) < (es3.length : Int)) = true := by simp; omega
          refine X9a ?_; intro HI; have hil2 : i < (es3.map Prod.fst).length := by simpa using hlt
          obtain ⟨ad, hA, hrd0⟩ := HW3.out.s.at_ i hil2; rw [List.getElem_map] at hrd0; have HSV : Hid (v3.v = .slice (some ad) v3.n v3.c) := hZ (by unfold Sv.v; rw [hA]); have HRD : ∀ (L : List (Nat × Nat × List Value)) (W : World), Loc w1 (Rest w1 []) L W → Hid (Rd W (some (ad.add (i * 34))) es3[i].1.cells) := fun L W hW => hZ (hrd0.keepE hW (fun hne ad2 e => ⟨hrd0.lt hne e, fun x hx => by cases hx⟩))
          have htx0 := HW3.out.tx i hil2; simp only [List.getElem_map, List.getD_eq_getElem?_getD, List.getElem?_map, List.getElem?_eq_getElem hlt, Option.map_some, qe] at htx0; have HTX : ∀ (L : List (Nat × Nat × List Value)) (W : World), Loc w1 (Rest w1 []) L W → Hid (Tx W es3[i].1.val.A es3[i].1.val.n es3[i].1.val.c es3[i].2) := fun L W hW => hZ ⟨htx0.len, htx0.cap, htx0.max, htx0.rd.keepE hW (fun hne ad2 e => ⟨htx0.rd.lt hne e, fun x hx => by cases hx⟩), fun _ _ h => h⟩
          have HTK : Hid ((es3.take (i + 1)).filterMap gv = (es3.take i).filterMap gv ++ (gv es3[i]).toList) := hZ (by rw [List.take_succ_eq_append_getElem hlt, List.filterMap_append]; congr 1); have HTM : Hid (es3[i].2.length ≤ maxLen) := hZ (by have h1 := htx0.len; have h2 := htx0.cap; have h3 := htx0.max; omega); have hbig : Hid (es3[i].1.gone = false → es3[i].2.length ≤ 1048576) := hZ (HBG.out _ (List.getElem_mem hlt)); have hin : i < v3.n := by rw [HN3.out]; exact hlt
          clear hA hrd0 hil2 htx0; obtain ⟨⟨x, lx⟩, hx⟩ : ∃ x, es3[i] = x := ⟨_, rfl⟩; rw [hx] at HRD HTX HTK HTM hbig; clear hx; go_upto_region 9 with fail; refine Xa3 ?_; go_upto_region 10 with fail; refine Xs ?_; refine xaa rfl _ (xbf xcd (.tmp 29) _ rfl ad v3.n v3.c i .i64 HSV.out rfl hin) ?_; refine X5 ?_; refine Xa4 ?_; refine X5 ?_; refine xai zr222 rfl rfl HL ?_; clear HL; intro g10 w HL; refine X5 ?_; refine Xa5 ?_; refine X35 ?_; clear HL; intro w HL
          cases hg : x.gone with
          | true =>
            refine Xa6 ?_; intro HGO; have HGV : Hid (gv (x, lx) = none) := hZ (by unfold gv; rw [if_pos hg]); clear hg; go_upto_region 11 with fail; refine Xa7 ?_; refine Xa8 ?_; refine X2a ?_; have HLd := HL.drop (G ++ (GV ++ [])) (sB _ _); clear HL; have HL := HLd; clear HLd; go_upto_region 13 with fail; refine Xaf ?_; go_wp2_with fail; go_roundw
            case rel => exact ⟨i + 1, qs, G, GV, sv, by omega, rfl, rfl, by omega, hG, hGV, by rw [HTK.out, HGV.out, HQS.out]; simp, HL⟩
            case measure => simp [intOf] <;> omega
          | false =>
            refine Xan ?_; intro HGO; have HB9 : lx.length ≤ 1048576 := hbig.out hg; have HGV : Hid (gv (x, lx) = some (x.key, lx)) := hZ (by unfold gv; rw [if_neg (by rw [hg]; decide)]); clear hg; go_upto_region 11 with fail; refine Xa7 ?_; refine Xao ?_; refine X2a ?_; have HX := (HL.perm (L' := ((g10, 222, x.cells) :: (G ++ GV)) ++ ([] ++ [])) (by simp)).drew; have HL2 := HL.drop [(g10, 222, x.cells)] (by simp); have HTL := hZ (HTX _ _ HX).out.len; clear HL; have HL := HL2; clear HL2; go_upto_region 12 with fail; refine rB (Loc.P HL) [] [5, 7, 8] [0, 1, 2, 3, 4, 5, 6, 7, 8, 9] 0 ?_; refine X3c ?_; intro HL; refine xab rfl rfl HL (fun W hW => xaf xg8 _ rfl _ rfl) ?_; refine X5 ?_; refine xab rfl rfl HL (fun W hW => xbt ag24 hW _ rfl _ _ rfl _ _ _ (.head _) (Wrt.g_key _) (D32.cl _)) ?_; refine X5 ?_; refine xab rfl rfl HL (fun W hW => xaf xg9 _ rfl _ rfl) ?_
            refine X5 ?_; refine xab rfl rfl HL (fun W hW => xah sc25 hW _ rfl _ _ rfl _ _ _ (.head _) (Wrt.g_val _)) ?_; refine Xf ?_; intro K hK; refine xem sl25 el5 _ _ rfl ((g10, 222, x.cells) :: (G ++ GV)) 0 Sv.nil [] (Gw.nil 5 1) HX rfl x.val.A x.val.n x.val.c (bvs lx) rfl (HTX _ _ HX).out.rd (by rw [xae, Nat.mul_one]; exact HTL.out) (xbo _) (by have h1 : lx.length = x.val.n := HTL.out; omega) (by have h1 : lx.length = x.val.n := HTL.out; omega) ?_; clear HX HL; intro sv5 G5 w hG5 HX; rw [List.nil_append, Nat.zero_add, ← HTL.out] at hG5; have HL := HX.drop [(g10, 222, x.cells)] (by simp); refine X3w ?_; clear hK K; refine xab rfl rfl HL (fun W hW => xbq bs61 _ rfl _ (by exact xqv x.key sv5)) ?_; refine Xf ?_; intro K hK; refine xsr sl55 el61 (by decide) _ rfl HX (⟨x.key, sv5⟩ : Par).cells rfl (Par.len _) ?_; clear HX HL; intro g45 w HX
            have HL := HX.drop [(g10, 222, x.cells)] (by simp); refine X3x ?_; clear hK K; intro K hK; have HX2 := HX.perm (L' := ((g45, 61, (⟨x.key, sv5⟩ : Par).cells) :: (g10, 222, x.cells) :: []) ++ (G ++ (GV ++ (G5 ++ [])))) (by simp); refine xa9 sl55 el61 _ _ rfl ((g45, 61, (⟨x.key, sv5⟩ : Par).cells) :: (g10, 222, x.cells) :: []) qs.length sv _ hG HX2 rfl ⟨g45, 0, none⟩ 1 1 (⟨x.key, sv5⟩ : Par).cells rfl (Rd.of_blk0 (es := []) (by rw [List.append_nil]; exact HX2.blk (.head _))) (Par.len _) (Par.one _) (by omega) (by omega) (by omega) ?_; clear HX HX2 HL; intro svp' G' w hG' HX; have HL := HX.drop [(g10, 222, x.cells)] (by simp); refine X3w ?_; clear hK K; refine X4p ?_; clear HL; have HL := HX.drop (G' ++ (GV ++ (G5 ++ []))) (by exact (sB _ _).trans (sB _ _)); clear HX; go_upto_region 13 with fail; refine Xaf ?_; go_wp2_with fail; go_roundw
            case rel =>
              refine ⟨i + 1, qs ++ [(⟨x.key, sv5⟩, lx)], G', GV ++ G5, svp', by omega, rfl, rfl, by rw [List.length_append]; exact Nat.add_le_add_right hql 1, ?_, ?_, ?_, by simpa [List.append_assoc] using HL⟩
              · rw [List.length_append, List.map_append, List.flatMap_append]; simpa using hG'
              · rw [List.map_append, List.map_append]; exact .snoc hGV hG5
              · rw [HTK.out, HGV.out, List.map_append, HQS.out]; rfl
            case measure => simp [intOf] <;> omega
        · have k4 : decide ((i : Int) < (es3.length : Int)) = false := by simp; omega
          have hin : i = es3.length := by omega
          go_upto_region 9 with fail; refine Xa3 ?_; go_upto_region 14 with fail; refine X7j ?_; go_wp2_with fail; go_ret; have hq : qs.map entP = es3.filterMap gv := by rw [HQS.out, hin, List.take_length]
          have hnew : ∀ y ∈ G ++ (GV ++ []), w1.heap.size ≤ y.1 := fun y hy => Nat.le_of_not_lt fun hlt2 => (HL.own y hy).1 ⟨hlt2, fun x hx => by cases hx⟩
          have hB2 : Below w0.heap.size w0 w := HB.out.trans (HL.belowR _ HB.out.size (fun u hu => by cases hu)); have hsz := HB.out.size; refine ⟨sv, qs, rfl, ⟨hG.rdm (fun x hx => by simp [hx]) HL, hG.len.symm, hG.cap.1, fun q hq => ?_⟩, fun ad e => Nat.le_trans hsz (hG.fars (fun y hy => hnew y (by simp [hy])) ad e), fun q hq ad e => ?_, ?_, fun k t => ?_, ?_, hB2⟩
          · have h1 := hGV.all (N := w1.heap.size) (L := G ++ (GV ++ [])) (fun x hx => by simp [hx]) (fun y hy => hnew y (by simp [hy])) HL
            obtain ⟨j, hj, rfl⟩ := List.getElem_of_mem hq; exact (h1.tx j qs[j].1.val qs[j].2 (by simp [hj]) (by simp [hj])).1
          · have h1 := hGV.all (N := w1.heap.size) (L := G ++ (GV ++ [])) (fun x hx => by simp [hx]) (fun y hy => hnew y (by simp [hy])) HL
            obtain ⟨j, hj, rfl⟩ := List.getElem_of_mem hq; exact Nat.le_trans hsz ((h1.tx j qs[j].1.val qs[j].2 (by simp [hj]) (by simp [hj])).2 ad e)
          · have h1 : (es3.filterMap gv).Pairwise fun p q => nOf p.1.l < nOf q.1.l := by
              rw [List.pairwise_filterMap]; refine HR3.out.imp fun {a b} hab p hp q hq => ?_
              unfold gv at hp hq
              split at hp
              · cases hp
              · split at hq
                · cases hq
                · injection hp with hp; injection hq with hq
                  subst hp; subst hq; exact hab
            rw [← hq, List.pairwise_map] at h1; exact h1
          · rw [hq, gv_spec, HS3.out, HALL.out]
          · have h1 : (qs.map entP).length ≤ es3.length := by rw [hq]; exact List.length_filterMap_le _ _
            rw [List.length_map] at h1; rw [HALL.out]; exact Nat.le_trans h1 HL3.out
theorem cnt_if (R : List Int) (z y : Int) : ((if z = 0 then R else z :: R).count y) = R.count y + (if y = z ∧ z ≠ 0 then 1 else 0) := by
  by_cases h : z = 0
  · rw [if_pos h, if_neg (by simp [h])]; omega
  · rw [if_neg h, List.count_cons, xer]
    simp only [h, ne_eq, not_false_eq_true, and_true]
theorem xff (R : List Int) (z : Int) : (if z = 0 then R else z :: R).length ≤ R.length + 1 := by
  split
  · omega
  · simp
theorem xmn {ws : List Wrt} {ls : List (List UInt8)} (h : ls.length = ws.length) : (esOf ws ls).length = ws.length := by simp [esOf, h]
theorem xmo {ws : List Wrt} {ls : List (List UInt8)} (h : ls.length = ws.length) : (esOf ws ls).map Prod.fst = ws.map Wrt.key := by
  unfold esOf; rw [List.map_fst_zip]; simp [h]
section
variable {gs g : Nat}
theorem xpv (D : Nat → Prop) (w : World) (σ : Sb) (vs vf : Sv) (R : List Int) (zo : Int) (A : Option Addr) (c N d : Nat) (h : StP D w gs g σ vs vf) (hI : σ.Inv R []) : Calls Tryz.prog 226 #[.pointer (some ⟨gs, 0, none⟩), .int .i64 zo, .int .i64 (d : Int), .slice A 0 c] w (MadeT D w gs g σ R d (xau N d []) 0) := by
  have HH := hZ h; have HI := hZ hI; clear h hI; go_enter Tryz.func226, Tryz.ntmps226; go_upto_region 0 with fail; refine X1j ?_; go_upto_region 1 with fail; refine Xax ?_; go_upto_region 2 with fail; refine X7m ?_; go_upto_region 3 with fail; refine X1j ?_; go_wp2_with fail; go_ret; exact ⟨0, D, vs, vf, σ, rfl, HH.out, Stp.refl _ _, by simpa using HI.out, fun i hi hc => ⟨hi, rfl, rfl, hc⟩, by simp only [xau]; rfl, rfl, by omega⟩
structure FrE (N d : Nat) (ws : List Wrt) (ls : List (List UInt8)) : Prop where
  parts : xgu N d (esOf ws ls)
  len : ∀ p ∈ esOf ws ls, p.2.length ≤ 1024
  share : ∀ p ∈ esOf ws ls, ∀ q ∈ esOf ws ls, ∀ e, e < d → tb p.1.l e = tb q.1.l e
  nd : (ws.map Wrt.key).Nodup
theorem FrE.both {N d : Nat} {ws : List Wrt} {ls : List (List UInt8)} (h : FrE (N + 1) d ws ls) (hl : ls.length = ws.length) (h2 : 2 ≤ ws.length) :
    FrE N (d + 1) (ws.take (xbe d ws)) (ls.take (xbe d ws)) ∧ FrE N (d + 1) (ws.drop (xbe d ws)) (ls.drop (xbe d ws)) ∧
    xau (N + 1) d (esOf ws ls) = xci (xau N (d + 1) (esOf (ws.take (xbe d ws)) (ls.take (xbe d ws)))) (xau N (d + 1) (esOf (ws.drop (xbe d ws)) (ls.drop (xbe d ws)))) ∧
    (∀ p ∈ esOf (ws.take (xbe d ws)) (ls.take (xbe d ws)), tb p.1.l d = false) ∧ (∀ p ∈ esOf (ws.drop (xbe d ws)) (ls.drop (xbe d ws)), tb p.1.l d = true) ∧
    (∀ t, newN t (esOf ws ls) = newN t (esOf (ws.take (xbe d ws)) (ls.take (xbe d ws))) + newN t (esOf (ws.drop (xbe d ws)) (ls.drop (xbe d ws)))) ∧ (∀ t, 1 ≤ newN t (esOf ws ls)) := by
  obtain ⟨e1, e2⟩ := xn6 (d := d) hl; have hnd := h.nd; rw [← xmo hl] at hnd; have hln := xmn hl
  obtain ⟨x, y, l, hx⟩ : ∃ x y l, esOf ws ls = x :: y :: l := by
    match hq : esOf ws ls with
    | [] => rw [hq] at hln; simp at hln; omega
    | [a] => rw [hq] at hln; simp at hln; omega
    | a :: b :: m => exact ⟨a, b, m, rfl⟩
  have hp := h.parts; have happ := xgt (fun p : D32 × List UInt8 => !tb p.1.l d) (esOf ws ls); rw [e1, e2] at happ; have hT := xga (d := d) (es := esOf ws ls); rw [e1] at hT; have hsT : ∀ p ∈ esOf (ws.take (xbe d ws)) (ls.take (xbe d ws)), p ∈ esOf ws ls := fun p hp => by rw [← happ]; simp [hp]
  have hsD : ∀ p ∈ esOf (ws.drop (xbe d ws)) (ls.drop (xbe d ws)), p ∈ esOf ws ls := fun p hp => by rw [← happ]; simp [hp]
  rw [hx] at hp; obtain ⟨hb, p1, p2⟩ := hp; rw [← hx, e1] at p1; rw [← hx, e2] at p2 hb; refine ⟨⟨p1, fun p hp => h.len p (hsT p hp), fun p hp q hq e he => ?_, ?_⟩, ⟨p2, fun p hp => h.len p (hsD p hp), fun p hp q hq e he => ?_, ?_⟩, ?_, hT, hb, fun t => by rw [← newN_app, happ], fun t => ?_⟩
  · by_cases hed : e = d
    · subst hed; rw [hT p hp, hT q hq]
    · exact h.share p (hsT p hp) q (hsT q hq) e (by omega)
  · rw [List.map_take]; exact h.nd.sublist (List.take_sublist _ _)
  · by_cases hed : e = d
    · subst hed; rw [hb p hp, hb q hq]
    · exact h.share p (hsD p hp) q (hsD q hq) e (by omega)
  · rw [List.map_drop]; exact h.nd.sublist (List.drop_sublist _ _)
  · rw [← e1, ← e2, hx]; rfl
  · rw [hx] at hnd ⊢
    refine newN_pos fun e => ?_
    simp only [qk, List.nodup_cons, List.mem_cons, not_or] at hnd; exact hnd.1.1 e
end
structure xmp (N : Nat) : Prop where
  run : ∀ (d : Nat) (hd : d + N = 256) (D : Nat → Prop) (w : World) (gs g : Nat) (σ : Sb) (vs vf : Sv) (R : List Int) (zo : Int) (d0 : Nat) (told : Tre) (A : Option Addr) (n c : Nat) (ws : List Wrt) (ls : List (List UInt8)),
  StP D w gs g σ vs vf → σ.Inv R [] → IsT σ zo d0 told → told.isIn = false → (∀ k v, told = .leaf k v → v.length ≤ 1024) → WriT D w A n c ws ls → FrE N d ws ls → R.length + N ≤ 500000000 → n ≤ 500000 → σ.used + (N + 1) * newN told (esOf ws ls) ≤ σ.room →
  Calls Tryz.prog 226 #[.pointer (some ⟨gs, 0, none⟩), .int .i64 zo, .int .i64 (d : Int), .slice A n c] w (MadeT D w gs g σ R d (xau N d (esOf ws ls)) ((N + 1) * newN told (esOf ws ls)))
theorem xmq (R : List Int) (z1 z2 y : Int) : (if z2 = 0 then (if z1 = 0 then R else z1 :: R) else z2 :: (if z1 = 0 then R else z1 :: R)).count y = R.count y + (if y = z1 ∧ z1 ≠ 0 then 1 else 0) + (if y = z2 ∧ z2 ≠ 0 then 1 else 0) := by rw [cnt_if, cnt_if]
theorem xpw (N : Nat) (IH : xmp N) (d : Nat) (hd : d + (N + 1) = 256) (D : Nat → Prop) (w : World) (gs g : Nat) (σ : Sb) (vs vf : Sv) (R : List Int) (zo : Int) (d0 : Nat) (told : Tre) (A : Option Addr) (n c : Nat) (ws : List Wrt) (ls : List (List UInt8))
    (h : StP D w gs g σ vs vf) (hI : σ.Inv R []) (ht : IsT σ zo d0 told) (hti : told.isIn = false) (htv : ∀ k v, told = .leaf k v → v.length ≤ 1024) (hW : WriT D w A n c ws ls) (hE : FrE (N + 1) d ws ls) (hR : R.length + (N + 1) ≤ 500000000) (hn : n ≤ 500000) (hroom : σ.used + (N + 1 + 1) * newN told (esOf ws ls) ≤ σ.room) (h2 : 2 ≤ n) :
    Calls Tryz.prog 226 #[.pointer (some ⟨gs, 0, none⟩), .int .i64 zo, .int .i64 (d : Int), .slice A n c] w (MadeT D w gs g σ R d (xau (N + 1) d (esOf ws ls)) ((N + 1 + 1) * newN told (esOf ws ls))) := by
  have hln := hW.s.len; obtain ⟨ea, eb, ej, hba, hbb, hcnt, hpos⟩ := hE.both hW.len (by omega); have hzl := xj2 d ws; obtain ⟨m, hm⟩ : ∃ m, xbe d ws = m := ⟨_, rfl⟩; rw [hm] at ea eb ej hba hbb hcnt hzl; have hla : (ls.take m).length = (ws.take m).length := by simp [hW.len]
  have hlb : (ls.drop m).length = (ws.drop m).length := by simp [hW.len]
  obtain ⟨a, hA⟩ : ∃ a, newN told (esOf (ws.take m) (ls.take m)) = a := ⟨_, rfl⟩; obtain ⟨b, hB⟩ : ∃ b, newN told (esOf (ws.drop m) (ls.drop m)) = b := ⟨_, rfl⟩; have hc := hcnt told; have hp := hpos told; rw [hA, hB] at hc; rw [hc] at hp hroom ⊢; have hmul : (N + 1 + 1) * (a + b) = (N + 1) * a + (N + 1) * b + (a + b) := by rw [Nat.succ_mul, Nat.mul_add]
  rw [hmul] at hroom ⊢; generalize hPa : (N + 1) * a = P at *; generalize hPb : (N + 1) * b = Q at *; have HH := hZ h; have HI := hZ hI; have HT := hZ ht; have HTV := hZ htv; have HW := hZ hW; have HM := hZ hm; have HEA := hZ ea; have HEB := hZ eb; have HLA := hZ hla; have HLB := hZ hlb; have hoa := xdw N (d + 1) _ (by omega) ea.parts ea.len ea.share; have hob := xdw N (d + 1) _ (by omega) eb.parts eb.len eb.share; have hka := xcw N (d + 1) (esOf (ws.take m) (ls.take m)); have hkb := xcw N (d + 1) (esOf (ws.drop m) (ls.drop m)); have hmn : m ≤ n := by omega
  have hna := hka.2; have hnb := hkb.2; rw [xmn hla] at hna; rw [xmn hlb] at hnb; rw [List.length_take] at hna; rw [List.length_drop] at hnb
  have HJ : Hid ((∀ k ∈ (xau N (d + 1) (esOf (ws.take m) (ls.take m))).keys, tb k.l d = false) ∧ (∀ k ∈ (xau N (d + 1) (esOf (ws.drop m) (ls.drop m))).keys, tb k.l d = true) ∧ (∀ k ∈ (xau N (d + 1) (esOf (ws.take m) (ls.take m))).keys ++ (xau N (d + 1) (esOf (ws.drop m) (ls.drop m))).keys, ∀ k' ∈ (xau N (d + 1) (esOf (ws.take m) (ls.take m))).keys ++ (xau N (d + 1) (esOf (ws.drop m) (ls.drop m))).keys, ∀ e, e < d → tb k.l e = tb k'.l e)) := hZ (by
    have hall : ∀ k ∈ (xau N (d + 1) (esOf (ws.take m) (ls.take m))).keys ++ (xau N (d + 1) (esOf (ws.drop m) (ls.drop m))).keys, ∃ p ∈ esOf ws ls, p.1 = k := fun k hk => by
      rw [← List.mem_map, xmo hW.len]; rcases List.mem_append.1 hk with h | h
      · have := hka.1 k h
        rw [xmo hla, List.map_take] at this; exact (List.take_sublist _ _).subset this
      · have := hkb.1 k h
        rw [xmo hlb, List.map_drop] at this; exact (List.drop_sublist _ _).subset this
    refine ⟨fun k hk => ?_, fun k hk => ?_, fun k hk k' hk' e he => ?_⟩
    · obtain ⟨p, hp, rfl⟩ := List.mem_map.1 (hka.1 k hk); exact hba p hp
    · obtain ⟨p, hp, rfl⟩ := List.mem_map.1 (hkb.1 k hk); exact hbb p hp
    · obtain ⟨p, hp, rfl⟩ := hall k hk
      obtain ⟨q, hq, rfl⟩ := hall k' hk'
      exact hE.share p hp q hq e he)
  rw [ej]; generalize hfa : xau N (d + 1) (esOf (ws.take m) (ls.take m)) = ta at *; generalize hfb : xau N (d + 1) (esOf (ws.drop m) (ls.drop m)) = tr at *; have k0 : ((n : Int) == 0) = false := nB (by omega); have k1 : ((n : Int) == 1) = false := nB (by omega); have HD1 : Hid ((d : Int) + 1 = ((d + 1 : Nat) : Int)) := hZ (by omega); have hcap := hW.s.cap; have hd256 : d < 256 := by omega
  have HSZ : Hid (ta.size + tr.size ≤ 1000000) := hZ (by omega); have HRM : Hid (σ.used + P ≤ σ.room ∧ σ.used + P + Q ≤ σ.room ∧ σ.used + P + Q < σ.room) := hZ (by omega); have HFA := hZ hfa; have HFB := hZ hfb; have HA := hZ hA; have HB := hZ hB; have HPA := hZ hPa; have HPB := hZ hPb; have HOA := hZ hoa; have HOB := hZ hob; have HRL := hZ hR; have HP := hZ hp; clear htv h hI ht hW hE hm ea eb hla hlb hba hbb hcnt hpos hc hp hmul hPa hPb hoa hob hka hkb hna hnb hA hB hfa hfb ej hroom hR hzl hln; have HL := Loc.start w; obtain ⟨w0, rfl⟩ := eW w; go_enter Tryz.func226, Tryz.ntmps226; go_upto_region 0 with fail; refine X1j ?_; go_upto_region 1 with fail; refine Xax ?_; go_upto_region 2 with fail; refine Xs ?_; refine xaa rfl _ (xa3 (b := false) _ _ rfl _ _ rfl rfl k0) ?_; refine X19 ?_; go_upto_region 4 with fail; refine Xs ?_; refine X8n ?_; refine X19 ?_
  go_upto_region 9 with fail; refine X2k ?_; intro K hK; refine xac cf227 rfl _ rfl ?_; refine X1y ?_; (with_reducible refine (xk9 A n c ws d hd256 (HW.out.s.below HL.below) (by omega)).mono ?_); refine X44 ?_; intro w HL; simp only [HM.out]; refine X2n ?_; clear hK K; go_upto_region 10 with fail; refine X6m ?_; refine Xay ?_; refine X14 ?_; refine Xaz ?_; refine X4z ?_; intro K hK; refine Xb0 ?_; (with_reducible refine (IH.run (d + 1) (by omega) D _ gs g σ vs vf R zo d0 told A m c (ws.take m) (ls.take m) (HH.out.below HL.below) HI.out HT.out hti HTV.out ((HW.out.step (Stp.of_below HL.below)).take m hmn) HEA.out (by have := HRL.out; omega) (by omega) (by rw [HA.out, HPA.out]; exact HRM.out.1)).mono ?_); rintro e w ⟨z1, D1, vs1, vf1, σ1, rfl, hP1, hS1, hI1, hY1, hT1, hr1, hu1⟩; rw [HFA.out] at hT1; rw [HA.out, HPA.out] at hu1
  have HW1 := hZ ((HW.out.step ((Stp.of_below HL.below).trans hS1)).drop m hmn); have HS1 := hZ ((Stp.of_below HL.below).trans hS1); have HP1 := hZ hP1; have HI1 := hZ hI1; have HY1 := hZ hY1; have HT1 := hZ hT1; have HU1 := hZ (And.intro hr1 hu1); clear hP1 hS1 hI1 hY1 hT1 hr1 hu1 HL; refine X2n ?_; clear hK K; go_upto_region 11 with fail; refine X6m ?_; refine X10 ?_; refine X10 ?_; refine X10 ?_; refine Xay ?_; refine X14 ?_; refine Xb1 ?_; refine X4z ?_; intro K hK; refine Xb0 ?_; (with_reducible refine (IH.run (d + 1) (by omega) D1 _ gs g σ1 vs1 vf1 (if z1 = 0 then R else z1 :: R) zo d0 told _ (n - m) (c - m) (ws.drop m) (ls.drop m) HP1.out HI1.out (HT.out.stay HY1.out) hti HTV.out HW1.out HEB.out (by have := HRL.out; have := xff R z1; omega) (by omega) (by rw [HB.out, HPB.out]; have q1 := HU1.out; have q2 := HRM.out; omega)).mono ?_)
  rintro e w ⟨z2, D2, vs2, vf2, σ2, rfl, hP2, hS2, hI2, hY2, hT2, hr2, hu2⟩; rw [HFB.out] at hT2; rw [HB.out, HPB.out] at hu2; have HS2 := hZ (HS1.out.trans hS2); have HP2 := hZ hP2; have HI2 := hZ hI2; have HY2 := hZ hY2; have HT2 := hZ hT2; have HU2 := hZ (And.intro hr2 hu2); clear hP2 hS2 hI2 hY2 hT2 hr2 hu2; refine X20 ?_; clear hK K; refine X4z ?_; intro K hK; refine xac cf228 rfl _ rfl ?_; refine X1y ?_; (with_reducible refine (xh5 HP2.out _ R HI2.out d hd256 z1 z2 ta tr (HT1.out.stay HY2.out) HT2.out HOA.out HOB.out HJ.out.1 HJ.out.2.1 HJ.out.2.2 (xmq R z1 z2) (by have := HRL.out; have := xff R z1; have := xff (if z1 = 0 then R else z1 :: R) z2; omega) (by have q1 := HU1.out; have q2 := HRM.out; have q3 := HU2.out; omega) HSZ.out).mono ?_); rintro e w ⟨z3, D3, vs3, vf3, σ3, rfl, hP3, hS3, hI3, hY3, hT3, hr3, hu3⟩; refine X2n ?_; clear hK K; go_wp2_with fail
  go_ret; exact ⟨z3, D3, vs3, vf3, σ3, rfl, hP3, HS2.out.trans hS3, hI3, (HY1.out.trans HY2.out).trans hY3, hT3, by rw [hr3, HU2.out.1, HU1.out.1], by have q1 := HU1.out; have q3 := HU2.out; have q4 := HP.out; omega⟩
section
variable {D D' : Nat → Prop} {w w' : World} {gs g : Nat} {σ : Sb} {vs vf : Sv} {R : List Int}
theorem xh9 (hI : σ.Inv R []) (hroom : σ.used < σ.room) (key : D32) (val : List UInt8) (x : Sv) (d : Nat) {vs' vf' : Sv} (hP : StP D' w' gs g (σ.take ⟨xbu key val x, 1, val⟩) vs' vf') :
    (σ.take ⟨xbu key val x, 1, val⟩).Inv ((σ.next : Int) :: R) [] ∧ σ.Stays (σ.take ⟨xbu key val x, 1, val⟩) ∧ IsT (σ.take ⟨xbu key val x, 1, val⟩) (σ.next : Int) d (.leaf key val) ∧ (σ.take ⟨xbu key val x, 1, val⟩).room = σ.room ∧ (σ.take ⟨xbu key val x, 1, val⟩).used = σ.used + 1 ∧ ¬ (σ.next : Int) = 0 := by
  generalize he : (⟨xbu key val x, 1, val⟩ : En) = e at *
  have g3 := hI.take e (Sb.take_ok hI.ok hroom e) [] (by rw [← he]) (by rw [← he]) (.inl (by rw [← he])) (.inl (by rw [← he])) (fun z => by
    rw [← he]; unfold En.pts; by_cases hz : z = 0
    · rw [if_pos hz]; rfl
    · rw [if_neg hz]
      have hz2 : ¬ (0 : Int) = z := fun e => hz e.symm
      show 0 = 0 + ((if (0 : Int) = z then 1 else 0) + (if (0 : Int) = z then 1 else 0))
      rw [if_neg hz2])
  obtain ⟨i0, hx, hrm, hus, hln, ⟨hi0, hat0⟩, _⟩ := hI.taken e; have hmem : e ∈ (σ.take e).slots := List.mem_of_getElem hat0; have hv := (hP.sb.vals e hmem).1.len; refine ⟨g3.1, Sb.Stays.take hI.nice e, ⟨i0, hi0, by rw [hx]; omega, by rw [hat0, ← he]; simp, by rw [hat0, ← he], by rw [hat0, ← he], by rw [hat0, ← he], by rw [hat0, ← he], by rw [hat0, ← he], by rw [hat0, ← he], by rw [hat0, ← he], ?_⟩, hrm, hus, by rw [hx]; omega⟩; rw [hat0, ← hv, ← he]
end
section
variable {D : Nat → Prop} {w : World} {gs g : Nat} {σ : Sb} {vs vf : Sv}
theorem xko (h : StP D w gs g σ vs vf) (R : List Int) (hI : σ.Inv R []) (A : Option Addr) (c d : Nat) (x : Wrt) (l : List UInt8) (hW : WriT D w A 1 c [x] [l]) (hl : l.length ≤ 1024) (hroom : σ.used + 1 ≤ σ.room) :
    Calls Tryz.prog 226 #[.pointer (some ⟨gs, 0, none⟩), .int .i64 0, .int .i64 (d : Int), .slice A 1 c] w (MadeT D w gs g σ R d (.leaf x.key l) 1) := by
  obtain ⟨ad, hA, _⟩ := hW.s.at_ 0 (by simp); refine Xb2 ?_; intro HSV
  have hrd : ∀ (L : List (Nat × Nat × List Value)) (u : World), Loc w (Old w) L u → Rd u (some (ad.add (0 * 34))) x.cells := fun L u hu => by
    obtain ⟨ad2, hA2, h2⟩ := (hW.s.below hu.below).at_ 0 (by simp); rw [hA] at hA2; cases hA2; exact h2
  have HK : ∀ (L : List (Nat × Nat × List Value)) (u : World), Loc w (Old w) L u → Hid (Rd u (some ((ad.add (0 * 34)).add 0)) x.key.c) := fun L u hu => hZ (by
    have h1 := (hrd L u hu).cut 0 32; rw [Wrt.g_key] at h1
    exact h1)
  have HV : ∀ (L : List (Nat × Nat × List Value)) (u : World), Loc w (Old w) L u → Hid (Rd u (some ((ad.add (0 * 34)).add 33)) [x.val.v]) := fun L u hu => hZ (by
    have h1 := (hrd L u hu).cut 33 1; rw [xdu (Wrt.g_val x)] at h1
    exact h1)
  refine Xb3 ?_; intro hD0
  have hrd2 : ∀ (L : List (Nat × Nat × List Value)) (u : World), Loc w (fun k => Old w k ∧ ¬ D k) L u → Rd u (some (ad.add (0 * 34))) x.cells := fun L u hu => by
    obtain ⟨ad2, hA2, h2⟩ := hW.s.at_ 0 (by simp); rw [hA] at hA2; cases hA2; refine h2.keepE hu (fun _ ad3 e => ?_); have e2 : (ad.add (0 * 34)) = ad3 := by simpa using e
    rw [← e2, show (ad.add (0 * 34)).block = ad.block by unfold Addr.add; split <;> rfl]; exact hD0 ad hA
  have HK2 : ∀ (L : List (Nat × Nat × List Value)) (u : World), Loc w (fun k => Old w k ∧ ¬ D k) L u → Hid (Rd u (some ((ad.add (0 * 34)).add 0)) x.key.c) := fun L u hu => hZ (by
    have h1 := (hrd2 L u hu).cut 0 32; rw [Wrt.g_key] at h1
    exact h1)
  have HV2 : ∀ (L : List (Nat × Nat × List Value)) (u : World), Loc w (fun k => Old w k ∧ ¬ D k) L u → Hid (Rd u (some ((ad.add (0 * 34)).add 33)) [x.val.v]) := fun L u hu => hZ (by
    have h1 := (hrd2 L u hu).cut 33 1; rw [xdu (Wrt.g_val x)] at h1
    exact h1)
  refine Xb4 ?_; intro htx; refine Xb5 ?_; intro HX; have HTX := hZ (And.intro htx.len (And.intro htx.cap (And.intro htx.max (show x.val.n ≤ 1024 by rw [← htx.len]; exact hl)))); have HH := hZ h; have HI := hZ hI; have HRM : Hid (σ.used < σ.room) := hZ (by omega); have G0 : Hid (Got σ 0 Nd.z [] false) := hZ (.inr ⟨rfl, by omega, rfl, rfl⟩); have k3 : ((Nd.z.kind : Int) == 1) = false := rfl; refine Xb6 ?_; intro CL; clear h hI hW hl hroom hrd hrd2 hD0 hA htx; have HL := Loc.start w; obtain ⟨w0, rfl⟩ := eW w; go_enter Tryz.func226, Tryz.ntmps226; go_upto_region 0 with fail; refine X1j ?_; go_upto_region 1 with fail; refine Xax ?_; go_upto_region 2 with fail; refine X7m ?_; go_upto_region 4 with fail; refine X7m ?_; go_upto_region 5 with fail; refine Xb7 ?_; refine X3u ?_; intro HL; refine Xe ?_; intro K hK; refine X7k ?_; refine Xb8 ?_; refine X7f ?_; clear hK K; intro w HL
  refine xab rfl rfl HL (fun W hW => xa3 (b := false) _ _ rfl _ _ rfl rfl k3) ?_; refine X3g ?_; refine X80 ?_; refine X7z ?_; refine X81 ?_; refine X7y ?_; refine X3i ?_; refine X3g ?_; refine X80 ?_; refine X7z ?_; refine X7y ?_; refine X81 ?_; refine X7z ?_; refine X3i ?_; refine Xm ?_; go_upto_region 7 with fail; refine Xb9 ?_; intro CL7 hS7; replace HL := HL.less (D' := fun k => Old w0 k ∧ ¬ D k) (fun k h => h.1); refine Xba ?_; refine X3u ?_; intro HL; refine Xbb ?_; refine X5 ?_; refine Xbc ?_; refine X5 ?_; refine Xbd ?_; refine X3g ?_; refine Xbe ?_; refine X5 ?_; refine Xbf ?_; refine X5 ?_; refine Xbg ?_; refine Xf ?_; intro K hK; refine Xbh ?_; rintro e w ⟨D2, vs2, vf2, y, rfl, hP2, hS2⟩; have HP2 := hZ hP2; have HS2 := hZ (hS7.trans hS2); replace HL := HL.frame hS2.fr (fun k hk n => n.2 hk) (fun x hx => by cases hx); clear hP2 hS2; refine X74 ?_; clear hK K
  go_upto_region 8 with fail; refine X7j ?_; go_wp2_with fail; go_ret; have HF := xh9 HI.out HRM.out x.key l y d HP2.out; exact ⟨_, D2, vs2, vf2, _, rfl, HP2.out, HS2.out, by rw [if_neg HF.2.2.2.2.2]; exact HF.1, HF.2.1, HF.2.2.1, HF.2.2.2.1, by rw [HF.2.2.2.2.1]; omega⟩
end
section
variable {D : Nat → Prop} {w : World} {gs g : Nat} {σ : Sb} {vs vf : Sv}
theorem xkp (h : StP D w gs g σ vs vf) (zo : Int) (d0 : Nat) (k : D32) (v : List UInt8) (ht : IsT σ zo d0 (.leaf k v)) (R : List Int) (hI : σ.Inv R []) (A : Option Addr) (c d : Nat) (x : Wrt) (l : List UInt8) (hW : WriT D w A 1 c [x] [l]) (hl : l.length ≤ 1024) (hroom : σ.used + 1 ≤ σ.room) (hne : ¬ k.l = x.key.l) :
    Calls Tryz.prog 226 #[.pointer (some ⟨gs, 0, none⟩), .int .i64 zo, .int .i64 (d : Int), .slice A 1 c] w (MadeT D w gs g σ R d (.leaf x.key l) 1) := by
  obtain ⟨ad, hA, _⟩ := hW.s.at_ 0 (by simp); refine Xb2 ?_; intro HSV
  have hrd : ∀ (L : List (Nat × Nat × List Value)) (u : World), Loc w (Old w) L u → Rd u (some (ad.add (0 * 34))) x.cells := fun L u hu => by
    obtain ⟨ad2, hA2, h2⟩ := (hW.s.below hu.below).at_ 0 (by simp); rw [hA] at hA2; cases hA2; exact h2
  have HK : ∀ (L : List (Nat × Nat × List Value)) (u : World), Loc w (Old w) L u → Hid (Rd u (some ((ad.add (0 * 34)).add 0)) x.key.c) := fun L u hu => hZ (by
    have h1 := (hrd L u hu).cut 0 32; rw [Wrt.g_key] at h1
    exact h1)
  have HV : ∀ (L : List (Nat × Nat × List Value)) (u : World), Loc w (Old w) L u → Hid (Rd u (some ((ad.add (0 * 34)).add 33)) [x.val.v]) := fun L u hu => hZ (by
    have h1 := (hrd L u hu).cut 33 1; rw [xdu (Wrt.g_val x)] at h1
    exact h1)
  refine Xb3 ?_; intro hD0
  have hrd2 : ∀ (L : List (Nat × Nat × List Value)) (u : World), Loc w (fun k => Old w k ∧ ¬ D k) L u → Rd u (some (ad.add (0 * 34))) x.cells := fun L u hu => by
    obtain ⟨ad2, hA2, h2⟩ := hW.s.at_ 0 (by simp); rw [hA] at hA2; cases hA2; refine h2.keepE hu (fun _ ad3 e => ?_); have e2 : (ad.add (0 * 34)) = ad3 := by simpa using e
    rw [← e2, show (ad.add (0 * 34)).block = ad.block by unfold Addr.add; split <;> rfl]; exact hD0 ad hA
  have HK2 : ∀ (L : List (Nat × Nat × List Value)) (u : World), Loc w (fun k => Old w k ∧ ¬ D k) L u → Hid (Rd u (some ((ad.add (0 * 34)).add 0)) x.key.c) := fun L u hu => hZ (by
    have h1 := (hrd2 L u hu).cut 0 32; rw [Wrt.g_key] at h1
    exact h1)
  have HV2 : ∀ (L : List (Nat × Nat × List Value)) (u : World), Loc w (fun k => Old w k ∧ ¬ D k) L u → Hid (Rd u (some ((ad.add (0 * 34)).add 33)) [x.val.v]) := fun L u hu => hZ (by
    have h1 := (hrd2 L u hu).cut 33 1; rw [xdu (Wrt.g_val x)] at h1
    exact h1)
  refine Xb4 ?_; intro htx; refine Xb5 ?_; intro HX; have HTX := hZ (And.intro htx.len (And.intro htx.cap (And.intro htx.max (show x.val.n ≤ 1024 by rw [← htx.len]; exact hl)))); have HH := hZ h; have HI := hZ hI; have HRM : Hid (σ.used < σ.room) := hZ (by omega); obtain ⟨i, hi, hzi, hci, hvi, hki, hkk, _⟩ := ht; obtain ⟨nd, hnd⟩ : ∃ nd, σ.slots[i].nd = nd := ⟨_, rfl⟩; rw [hnd] at hki hkk; refine Xbi ?_; intro G0; have k3 : ((nd.kind : Int) == 1) = true := by rw [hki]; rfl
  have k12 : (nd.key.l == x.key.l) = false := by rw [hkk]; simpa using hne
  refine Xb6 ?_; intro CL; clear h hI hW hl hroom hne hzi hci hvi hki hkk hnd hrd hrd2 hD0 hA htx; have HL := Loc.start w; obtain ⟨w0, rfl⟩ := eW w; go_enter Tryz.func226, Tryz.ntmps226; go_upto_region 0 with fail; refine X1j ?_; go_upto_region 1 with fail; refine Xax ?_; go_upto_region 2 with fail; refine X7m ?_; go_upto_region 4 with fail; refine X7m ?_; go_upto_region 5 with fail; refine Xb7 ?_; refine X3u ?_; intro HL; refine Xe ?_; intro K hK; refine X7k ?_; refine Xbj ?_; refine X7f ?_; clear hK K; intro w HL; refine Xbk ?_; refine X6t ?_; refine Xbl ?_; refine X5 ?_; refine Xbc ?_; refine X5 ?_; refine Xbm ?_; refine Xf ?_; intro K hK; refine X88 ?_; refine Xbn ?_; refine X7f ?_; clear hK K; intro w HL; refine xab rfl rfl HL (fun W hW => xfs ab23 _ _ rfl nd.key x.key rfl rfl false k12) ?_; refine X3j ?_; refine X3g ?_; refine X80 ?_; refine X7z ?_; refine X7y ?_
  refine X81 ?_; refine X7z ?_; refine X3i ?_; refine Xm ?_; go_upto_region 7 with fail; refine Xb9 ?_; intro CL7 hS7; replace HL := HL.less (D' := fun k => Old w0 k ∧ ¬ D k) (fun k h => h.1); refine Xba ?_; refine X3u ?_; intro HL; refine Xbb ?_; refine X5 ?_; refine Xbc ?_; refine X5 ?_; refine Xbd ?_; refine X3g ?_; refine Xbe ?_; refine X5 ?_; refine Xbf ?_; refine X5 ?_; refine Xbg ?_; refine Xf ?_; intro K hK; refine Xbh ?_; rintro e w ⟨D2, vs2, vf2, y, rfl, hP2, hS2⟩; have HP2 := hZ hP2; have HS2 := hZ (hS7.trans hS2); replace HL := HL.frame hS2.fr (fun k hk n => n.2 hk) (fun x hx => by cases hx); clear hP2 hS2; refine X74 ?_; clear hK K; go_upto_region 8 with fail; refine X7j ?_; go_wp2_with fail; go_ret; have HF := xh9 HI.out HRM.out x.key l y d HP2.out
  exact ⟨_, D2, vs2, vf2, _, rfl, HP2.out, HS2.out, by rw [if_neg HF.2.2.2.2.2]; exact HF.1, HF.2.1, HF.2.2.1, HF.2.2.2.1, by rw [HF.2.2.2.2.1]; omega⟩
end
theorem xle {P : Program} {w : World} {a : Act} {o : Oper} {T T' : TypeId} {b : Bool} (hT : P.underlying T = some .string) (x y : Operand) (ho : o.op = .binOp .eql T x y T') (l k : List UInt8) (hx : a.eval x = .string ⟨l.toArray⟩) (hy : a.eval y = .string ⟨k.toArray⟩) (h : (l == k) = b) :
    (execOp a.eval o).run P w = .ok (.value (.bool b)) w := by
  unfold execOp; simp only [ho, hx, hy]; go_simp
section
variable {D : Nat → Prop} {w : World} {gs g : Nat} {σ : Sb} {vs vf : Sv}
theorem xj3 (h : StP D w gs g σ vs vf) (zo : Int) (d0 : Nat) (k : D32) (v : List UInt8) (ht : IsT σ zo d0 (.leaf k v)) (R : List Int) (hI : σ.Inv R []) (A : Option Addr) (c d : Nat) (x : Wrt) (l : List UInt8) (hW : WriT D w A 1 c [x] [l]) (hl : l.length ≤ 1024) (hroom : R.length ≤ 536870912) (hke : k.l = x.key.l) (hvl : v = l) (hvn : v.length ≤ 1024) :
    Calls Tryz.prog 226 #[.pointer (some ⟨gs, 0, none⟩), .int .i64 zo, .int .i64 (d : Int), .slice A 1 c] w (MadeT D w gs g σ R d (.leaf k v) 0) := by
  have ht0 : IsT σ zo d (.leaf k v) := ht; obtain ⟨ad, hA, _⟩ := hW.s.at_ 0 (by simp); refine Xb2 ?_; intro HSV
  have hrd : ∀ (L : List (Nat × Nat × List Value)) (u : World), Loc w (Old w) L u → Rd u (some (ad.add (0 * 34))) x.cells := fun L u hu => by
    obtain ⟨ad2, hA2, h2⟩ := (hW.s.below hu.below).at_ 0 (by simp); rw [hA] at hA2; cases hA2; exact h2
  have HK : ∀ (L : List (Nat × Nat × List Value)) (u : World), Loc w (Old w) L u → Hid (Rd u (some ((ad.add (0 * 34)).add 0)) x.key.c) := fun L u hu => hZ (by
    have h1 := (hrd L u hu).cut 0 32; rw [Wrt.g_key] at h1
    exact h1)
  have HV : ∀ (L : List (Nat × Nat × List Value)) (u : World), Loc w (Old w) L u → Hid (Rd u (some ((ad.add (0 * 34)).add 33)) [x.val.v]) := fun L u hu => hZ (by
    have h1 := (hrd L u hu).cut 33 1; rw [xdu (Wrt.g_val x)] at h1
    exact h1)
  refine Xb3 ?_; intro hD0
  have hrd2 : ∀ (L : List (Nat × Nat × List Value)) (u : World), Loc w (fun k => Old w k ∧ ¬ D k) L u → Rd u (some (ad.add (0 * 34))) x.cells := fun L u hu => by
    obtain ⟨ad2, hA2, h2⟩ := hW.s.at_ 0 (by simp); rw [hA] at hA2; cases hA2; refine h2.keepE hu (fun _ ad3 e => ?_); have e2 : (ad.add (0 * 34)) = ad3 := by simpa using e
    rw [← e2, show (ad.add (0 * 34)).block = ad.block by unfold Addr.add; split <;> rfl]; exact hD0 ad hA
  have HK2 : ∀ (L : List (Nat × Nat × List Value)) (u : World), Loc w (fun k => Old w k ∧ ¬ D k) L u → Hid (Rd u (some ((ad.add (0 * 34)).add 0)) x.key.c) := fun L u hu => hZ (by
    have h1 := (hrd2 L u hu).cut 0 32; rw [Wrt.g_key] at h1
    exact h1)
  have HV2 : ∀ (L : List (Nat × Nat × List Value)) (u : World), Loc w (fun k => Old w k ∧ ¬ D k) L u → Hid (Rd u (some ((ad.add (0 * 34)).add 33)) [x.val.v]) := fun L u hu => hZ (by
    have h1 := (hrd2 L u hu).cut 33 1; rw [xdu (Wrt.g_val x)] at h1
    exact h1)
  refine Xb4 ?_; intro htx; refine Xb5 ?_; intro HX; have HTX := hZ (And.intro htx.len (And.intro htx.cap (And.intro htx.max (show x.val.n ≤ 1024 by rw [← htx.len]; exact hl)))); have HH := hZ h; have HI := hZ hI; have HRL := hZ hroom; obtain ⟨i, hi, hzi, hci, hvi, hki, hkk, _⟩ := ht; obtain ⟨nd, hnd⟩ : ∃ nd, σ.slots[i].nd = nd := ⟨_, rfl⟩; rw [hnd] at hki hkk; refine Xbi ?_; intro G0; have k3 : ((nd.kind : Int) == 1) = true := by rw [hki]; rfl
  have k12 : (nd.key.l == x.key.l) = true := by rw [hkk]; simpa using hke
  have k24 : (v == l) = true := by simpa using hvl
  have HVN : Hid (v.length ≤ 1024) := hZ hvn; have HT := hZ ht0; clear ht0 h hI hW hl hroom hke hvl hvn hzi hci hvi hki hkk hnd hrd hrd2 hD0 hA htx; have HL := Loc.start w; obtain ⟨w0, rfl⟩ := eW w; go_enter Tryz.func226, Tryz.ntmps226; go_upto_region 0 with fail; refine X1j ?_; go_upto_region 1 with fail; refine Xax ?_; go_upto_region 2 with fail; refine X7m ?_; go_upto_region 4 with fail; refine X7m ?_; go_upto_region 5 with fail; refine Xbo ?_; refine X3u ?_; intro HL; refine Xe ?_; intro K hK; refine X7k ?_; refine Xbj ?_; refine X7f ?_; clear hK K; intro w HL; refine Xbk ?_; refine X6t ?_; refine Xbl ?_; refine X5 ?_; refine Xbc ?_; refine X5 ?_; refine Xbm ?_; refine Xf ?_; intro K hK; refine X88 ?_; refine Xbn ?_; refine X7f ?_; clear hK K; intro w HL; refine Xbp ?_; refine X6t ?_; refine Xbq ?_; refine X5 ?_; refine Xbf ?_; refine Xbr ?_; refine X5 ?_; refine Xbs ?_
  refine Xf ?_; intro K hK; refine X8a ?_; refine Xbt ?_; rintro e w ⟨v1, rfl, hov, hb⟩; obtain ⟨y, rfl, hyl, hyc, hym, hyr, _⟩ := xfq hov; have HY := hZ (And.intro hyl hyr); replace HL := HL.next hb; clear hb hov hyl hyc hym hyr; refine X70 ?_; clear hK K; intro K hK; refine xbg (xbd bt _ rfl y.A y.n y.c rfl v HY.out.2 HY.out.1) ?_; refine X3w ?_; clear hK K; refine Xbu ?_; go_upto_region 6 with fail; refine X2k ?_; intro K hK; refine Xbv ?_; refine X1y ?_; (with_reducible refine (xf9 (HH.out.below HL.below) R HI.out zo d (.leaf k v) HT.out HRL.out).mono ?_); rintro e w ⟨z1, D2, vs2, vf2, σ2, rfl, hP2, hS2, hI2, hY2, hT2, hr2, hu2⟩; have HP2 := hZ hP2; have HS2 := hZ ((Stp.of_below HL.below).trans hS2); have HI2 := hZ hI2; have HY2 := hZ hY2; have HT2 := hZ hT2; clear hP2 hS2 hI2 hY2 hT2; refine X2n ?_; clear hK K; go_wp2_with fail; go_ret
  exact ⟨_, D2, vs2, vf2, _, rfl, HP2.out, HS2.out, HI2.out, HY2.out, HT2.out, hr2, hu2⟩
theorem xkq (h : StP D w gs g σ vs vf) (zo : Int) (d0 : Nat) (k : D32) (v : List UInt8) (ht : IsT σ zo d0 (.leaf k v)) (R : List Int) (hI : σ.Inv R []) (A : Option Addr) (c d : Nat) (x : Wrt) (l : List UInt8) (hW : WriT D w A 1 c [x] [l]) (hl : l.length ≤ 1024) (hroom : σ.used + 1 ≤ σ.room) (hke : k.l = x.key.l) (hvl : ¬ v = l) (hvn : v.length ≤ 1024) :
    Calls Tryz.prog 226 #[.pointer (some ⟨gs, 0, none⟩), .int .i64 zo, .int .i64 (d : Int), .slice A 1 c] w (MadeT D w gs g σ R d (.leaf x.key l) 1) := by
  obtain ⟨ad, hA, _⟩ := hW.s.at_ 0 (by simp); refine Xb2 ?_; intro HSV
  have hrd : ∀ (L : List (Nat × Nat × List Value)) (u : World), Loc w (Old w) L u → Rd u (some (ad.add (0 * 34))) x.cells := fun L u hu => by
    obtain ⟨ad2, hA2, h2⟩ := (hW.s.below hu.below).at_ 0 (by simp); rw [hA] at hA2; cases hA2; exact h2
  have HK : ∀ (L : List (Nat × Nat × List Value)) (u : World), Loc w (Old w) L u → Hid (Rd u (some ((ad.add (0 * 34)).add 0)) x.key.c) := fun L u hu => hZ (by
    have h1 := (hrd L u hu).cut 0 32; rw [Wrt.g_key] at h1
    exact h1)
  have HV : ∀ (L : List (Nat × Nat × List Value)) (u : World), Loc w (Old w) L u → Hid (Rd u (some ((ad.add (0 * 34)).add 33)) [x.val.v]) := fun L u hu => hZ (by
    have h1 := (hrd L u hu).cut 33 1; rw [xdu (Wrt.g_val x)] at h1
    exact h1)
  refine Xb3 ?_; intro hD0
  have hrd2 : ∀ (L : List (Nat × Nat × List Value)) (u : World), Loc w (fun k => Old w k ∧ ¬ D k) L u → Rd u (some (ad.add (0 * 34))) x.cells := fun L u hu => by
    obtain ⟨ad2, hA2, h2⟩ := hW.s.at_ 0 (by simp); rw [hA] at hA2; cases hA2; refine h2.keepE hu (fun _ ad3 e => ?_); have e2 : (ad.add (0 * 34)) = ad3 := by simpa using e
    rw [← e2, show (ad.add (0 * 34)).block = ad.block by unfold Addr.add; split <;> rfl]; exact hD0 ad hA
  have HK2 : ∀ (L : List (Nat × Nat × List Value)) (u : World), Loc w (fun k => Old w k ∧ ¬ D k) L u → Hid (Rd u (some ((ad.add (0 * 34)).add 0)) x.key.c) := fun L u hu => hZ (by
    have h1 := (hrd2 L u hu).cut 0 32; rw [Wrt.g_key] at h1
    exact h1)
  have HV2 : ∀ (L : List (Nat × Nat × List Value)) (u : World), Loc w (fun k => Old w k ∧ ¬ D k) L u → Hid (Rd u (some ((ad.add (0 * 34)).add 33)) [x.val.v]) := fun L u hu => hZ (by
    have h1 := (hrd2 L u hu).cut 33 1; rw [xdu (Wrt.g_val x)] at h1
    exact h1)
  refine Xb4 ?_; intro htx; refine Xb5 ?_; intro HX; have HTX := hZ (And.intro htx.len (And.intro htx.cap (And.intro htx.max (show x.val.n ≤ 1024 by rw [← htx.len]; exact hl)))); have HH := hZ h; have HI := hZ hI; have HRM : Hid (σ.used < σ.room) := hZ (by omega); obtain ⟨i, hi, hzi, hci, hvi, hki, hkk, _⟩ := ht; obtain ⟨nd, hnd⟩ : ∃ nd, σ.slots[i].nd = nd := ⟨_, rfl⟩; rw [hnd] at hki hkk; refine Xbi ?_; intro G0; have k3 : ((nd.kind : Int) == 1) = true := by rw [hki]; rfl
  have k12 : (nd.key.l == x.key.l) = true := by rw [hkk]; simpa using hke
  have k24 : (v == l) = false := by simpa using hvl
  have HVN : Hid (v.length ≤ 1024) := hZ hvn; refine Xb6 ?_; intro CL; clear h hI hW hl hroom hke hvl hvn hzi hci hvi hki hkk hnd hrd hrd2 hD0 hA htx; have HL := Loc.start w; obtain ⟨w0, rfl⟩ := eW w; go_enter Tryz.func226, Tryz.ntmps226; go_upto_region 0 with fail; refine X1j ?_; go_upto_region 1 with fail; refine Xax ?_; go_upto_region 2 with fail; refine X7m ?_; go_upto_region 4 with fail; refine X7m ?_; go_upto_region 5 with fail; refine Xbo ?_; refine X3u ?_; intro HL; refine Xe ?_; intro K hK; refine X7k ?_; refine Xbj ?_; refine X7f ?_; clear hK K; intro w HL; refine Xbk ?_; refine X6t ?_; refine Xbl ?_; refine X5 ?_; refine Xbc ?_; refine X5 ?_; refine Xbm ?_; refine Xf ?_; intro K hK; refine X88 ?_; refine Xbn ?_; refine X7f ?_; clear hK K; intro w HL; refine Xbp ?_; refine X6t ?_; refine Xbq ?_; refine X5 ?_; refine Xbf ?_; refine Xbr ?_; refine X5 ?_; refine Xbs ?_
  refine Xf ?_; intro K hK; refine X8a ?_; refine Xbt ?_; rintro e w ⟨v1, rfl, hov, hb⟩; obtain ⟨y, rfl, hyl, hyc, hym, hyr, _⟩ := xfq hov; have HY := hZ (And.intro hyl hyr); replace HL := HL.next hb; clear hb hov hyl hyc hym hyr; refine X70 ?_; clear hK K; intro K hK; refine xbg (xbd bt _ rfl y.A y.n y.c rfl v HY.out.2 HY.out.1) ?_; refine X3w ?_; clear hK K; refine Xbu ?_; go_upto_region 7 with fail; refine Xb9 ?_; intro CL7 hS7; replace HL := HL.less (D' := fun k => Old w0 k ∧ ¬ D k) (fun k h => h.1); refine Xba ?_; refine X3u ?_; intro HL; refine Xbb ?_; refine X5 ?_; refine Xbc ?_; refine X5 ?_; refine Xbd ?_; refine X3g ?_; refine Xbe ?_; refine X5 ?_; refine Xbf ?_; refine X5 ?_; refine Xbg ?_; refine Xf ?_; intro K hK; refine Xbh ?_; rintro e w ⟨D2, vs2, vf2, y, rfl, hP2, hS2⟩; have HP2 := hZ hP2; have HS2 := hZ (hS7.trans hS2)
  replace HL := HL.frame hS2.fr (fun k hk n => n.2 hk) (fun x hx => by cases hx); clear hP2 hS2; refine X74 ?_; clear hK K; go_upto_region 8 with fail; refine X7j ?_; go_wp2_with fail; go_ret; have HF := xh9 HI.out HRM.out x.key l y d HP2.out; exact ⟨_, D2, vs2, vf2, _, rfl, HP2.out, HS2.out, by rw [if_neg HF.2.2.2.2.2]; exact HF.1, HF.2.1, HF.2.2.1, HF.2.2.2.1, by rw [HF.2.2.2.2.1]; omega⟩
theorem MadeT.mono {R' : List Int} {d : Nat} {t : Tre} {c c' : Nat} {e : Ending} {w' : World} (h : MadeT D w gs g σ R' d t c e w') (hc : c ≤ c') : MadeT D w gs g σ R' d t c' e w' := by
  obtain ⟨z, D', vs', vf', σ', h1, h2, h3, h4, h5, h6, h7, h8⟩ := h; exact ⟨z, D', vs', vf', σ', h1, h2, h3, h4, h5, h6, h7, by omega⟩
end
theorem xmr {t : Tre} {p : Ent} (h : t.has p = false) : newN t [p] = 1 := by simp [newN, h]
theorem xpx {d : Nat} : ∀ {es : List Ent}, 2 ≤ es.length → ¬ xgu 0 d es
  | [], h => by simp at h
  | [_], h => by simp at h
  | _ :: _ :: _, _ => fun h => h
theorem xj4 (N : Nat) (ih : ∀ M, N = M + 1 → xmp M) : xmp N := by
  refine ⟨fun d hd D w gs g σ vs vf R zo d0 told A n c ws ls h hI ht hti htv hW hE hR hn hroom => ?_⟩; have hlen := hW.s.len; have hll := hW.len; by_cases hn2 : 2 ≤ n
  · rcases N with _ | M
    · exact absurd hE.parts (xpx (by rw [xmn hll]; omega))
    · exact xpw M (ih M rfl) d hd D w gs g σ vs vf R zo d0 told A n c _ _ h hI ht hti htv hW hE hR hn hroom hn2
  · by_cases hn0 : n = 0
    · subst hn0
      have e1 : ws = [] := List.eq_nil_of_length_eq_zero hlen; subst e1; exact (xpv D w σ vs vf R zo A c N d h hI).mono fun e w' hm => hm.mono (by omega)
    · have e1 : n = 1 := by omega
      subst e1; obtain ⟨x, rfl⟩ := List.length_eq_one_iff.1 hlen; obtain ⟨l, rfl⟩ := List.length_eq_one_iff.1 hll; have hes : esOf [x] [l] = [(x.key, l)] := rfl; have hl : l.length ≤ 1024 := hE.len (x.key, l) (by rw [hes]; simp); have hfr : xau N d (esOf [x] [l]) = .leaf x.key l := by rw [hes]; cases N <;> rfl
      rw [hfr]; rw [hes] at hroom ⊢
      cases told with
      | inner a b => cases hti
      | nil =>
        have hz : zo = 0 := ht; subst hz; have hn1 : newN .nil [(x.key, l)] = 1 := xmr rfl; rw [hn1] at hroom ⊢; exact (xko h R hI A c d x l hW hl (by omega)).mono fun e w' hm => hm.mono (by omega)
      | leaf k v =>
        by_cases hk : k.l = x.key.l
        · have hvn : v.length ≤ 1024 := htv k v rfl
          by_cases hv : v = l
          · have e2 : (Tre.leaf x.key l) = .leaf k v := by rw [D32.ext hk, hv]
            rw [e2]; exact (xj3 h zo d0 k v ht R hI A c d x l hW hl (by omega) hk hv hvn).mono fun e w' hm => hm.mono (by omega)
          · have hn1 : newN (.leaf k v) [(x.key, l)] = 1 := xmr (by simp [Tre.has, hv])
            rw [hn1] at hroom ⊢; exact (xkq h zo d0 k v ht R hI A c d x l hW hl (by omega) hk hv hvn).mono fun e w' hm => hm.mono (by omega)
        · have hn1 : newN (.leaf k v) [(x.key, l)] = 1 := xmr (by
            have : ¬ k = x.key := fun e => hk (by rw [e])
            simp [Tre.has, this])
          rw [hn1] at hroom ⊢; exact (xkp h zo d0 k v ht R hI A c d x l hW hl (by omega) hk).mono fun e w' hm => hm.mono (by omega)
theorem xia : ∀ N, xmp N
  | 0 => xj4 0 fun M h => by omega
  | N + 1 => xj4 (N + 1) fun M h => by
    obtain rfl : N = M := by omega
    exact xia N
def xa2 (es : List WE) : List D32 := es.map fun e => e.1.key
theorem xc4 (es : List WE) : (es.map pw).map Prod.fst = xa2 es := by rw [List.map_map]; rfl
structure SpB (d : Nat) (told : Tre) (es : List WE) (t : Tre) : Prop where
  ok : t.Ok d
  sp : ∀ k v, (k, v) ∈ t.ents ↔ ((k, some v) ∈ es.map pw ∨ (k ∉ xa2 es ∧ (k, v) ∈ told.ents))
  sz : t.size ≤ told.size + es.length
theorem xss {es : List WE} (h : xfh es) : (xa2 es).Nodup := by
  unfold xa2; rw [List.nodup_iff_pairwise_ne, List.pairwise_map]; exact h.imp fun {a b} hlt e => by rw [e] at hlt; exact Nat.lt_irrefl _ hlt
theorem xms (a b : List (D32 × Option (List UInt8))) (k : D32) : xce (a ++ b) k = (xce b k).or (xce a k) := by
  induction b using xdx with
  | h0 => simp [xce]
  | h1 l x ih =>
    rw [← List.append_assoc, xdp, xdp, ih]
    split
    · rfl
    · rfl
theorem xir {ps : List (D32 × Option (List UInt8))} (h : (ps.map Prod.fst).Nodup) (k : D32) (o : Option (List UInt8)) : xce ps k = some o ↔ (k, o) ∈ ps := by
  refine ⟨xh8 ps, ?_⟩
  induction ps using xdx with
  | h0 => intro h; cases h
  | h1 l x ih =>
    intro hm; rw [List.map_append, List.nodup_append] at h; obtain ⟨h1, _, h3⟩ := h; rw [xdp]; rcases List.mem_append.1 hm with hm | hm
    · have hne : ¬ x.1 = k := fun e => h3 k (List.mem_map.2 ⟨_, hm, rfl⟩) x.1 (by simp) e.symm
      rw [if_neg hne]; exact ih h1 hm
    · have e := List.mem_singleton.1 hm
      rw [← e, if_pos rfl]
def xdk (t : Tre) (v : Sv) : List PE := match t with
  | .leaf k l => [(⟨k, v⟩, l)]
  | _ => []
theorem xst {told : Tre} (hti : told.isIn = false) (v : Sv) {es : List WE} (hr : xfh es) (k : D32) (t : List UInt8) :
    xce (((xdk told v).map toW ++ es).map pw) k = some (some t) ↔ ((k, some t) ∈ es.map pw ∨ (k ∉ xa2 es ∧ (k, t) ∈ told.ents)) := by
  have hnd : ((es.map pw).map Prod.fst).Nodup := by rw [xc4]; exact xss hr
  rw [List.map_append, xms]
  cases hl : xce (es.map pw) k with
  | some o =>
    have hm := (xir hnd k o).1 hl; have hk : k ∈ xa2 es := by rw [← xc4]; exact List.mem_map.2 ⟨_, hm, rfl⟩
    simp only [Option.some_or, Option.some.injEq]; constructor
    · intro e; subst e; exact .inl hm
    · rintro (h | h)
      · have := (xir hnd k (some t)).2 h
        rw [hl] at this; injection this
      · exact absurd hk h.1
  | none =>
    have hk : k ∉ xa2 es := by rw [← xc4]; exact (xps _).1 hl
    simp only [Option.none_or]; have hno : (k, some t) ∉ es.map pw := fun h => hk (by rw [← xc4]; exact List.mem_map.2 ⟨_, h, rfl⟩)
    cases told with
    | inner a b => cases hti
    | nil => simp [xdk, xce, Tre.ents, hno]
    | leaf k0 l0 =>
      simp only [xdk, qk, ql, xce, List.foldl_cons, List.foldl_nil, Tre.ents, List.mem_singleton, Prod.mk.injEq, hno, false_or, hk, not_false_eq_true, true_and]; show (if k0 = k then some (some l0) else none) = some (some t) ↔ _
      split
      · next e => subst e; simp [eq_comm]
      · next e => simp; exact fun h => absurd h.symm e
theorem xq3 {α : Type} [DecidableEq α] : ∀ {l m : List α}, l.Nodup → (∀ x ∈ l, x ∈ m) → l.length ≤ m.length
  | [], m, _, _ => by simp
  | x :: l, m, h, hs => by
    obtain ⟨h1, h2⟩ := List.nodup_cons.1 h; have hx := hs x (by simp)
    have := xq3 (l := l) (m := m.erase x) h2 fun y hy => by
      have hne : y ≠ x := fun e => h1 (e ▸ hy)
      exact (List.mem_erase_of_ne hne).2 (hs y (by simp [hy]))
    rw [List.length_erase_of_mem hx] at this; have hp := List.length_pos_of_mem hx; simp only [qr]; omega
theorem new_le {told : Tre} (hti : told.isIn = false) {es : List WE} {ens : List Ent} (hn : (ens.map Prod.fst).Nodup) (hs : ∀ k v, (k, v) ∈ ens ↔ ((k, some v) ∈ es.map pw ∨ (k ∉ xa2 es ∧ (k, v) ∈ told.ents))) : newN told ens ≤ es.length := by
  unfold newN
  have h1 : ((ens.filter fun p => !told.has p).map Prod.fst).length ≤ (xa2 es).length := by
    refine xq3 ?_ fun k hk => ?_
    · exact hn.sublist (List.Sublist.map _ (List.filter_sublist))
    · obtain ⟨⟨k', v⟩, hp, rfl⟩ := List.mem_map.1 hk
      obtain ⟨hp1, hp2⟩ := List.mem_filter.1 hp; rcases (hs k' v).1 hp1 with h | ⟨_, h⟩
      · rw [← xc4]; exact List.mem_map.2 ⟨_, h, rfl⟩
      · exfalso
        cases told with
        | nil => cases h
        | inner a b => cases hti
        | leaf k0 l0 =>
          simp only [Tre.ents, List.mem_singleton, Prod.mk.injEq] at h; simp [Tre.has, h.1, h.2] at hp2
  simpa [xa2] using h1
theorem IsT.uniq {σ : Sb} : ∀ {t u : Tre} {z : Int} {d : Nat}, IsT σ z d t → IsT σ z d u → t = u
  | .nil, u, z, d, h, h2 => by
    have h : z = 0 := h; subst h; exact h2.zero.symm
  | .leaf k v, .nil, z, d, h, h2 => by
    have h2 : z = 0 := h2; subst h2; exact h.zero
  | .leaf k v, .leaf k' v', z, d, h, h2 => by
    obtain ⟨i, hi, e, _, hv, _, hk, _⟩ := h; obtain ⟨j, hj, e', _, hv', _, hk', _⟩ := h2; obtain rfl : i = j := by omega
    rw [← hv, ← hk, ← hv', ← hk']
  | .leaf k v, .inner l r, z, d, h, h2 => by
    obtain ⟨i, hi, e, _, _, hk, _⟩ := h; obtain ⟨j, hj, e', _, hk', _⟩ := h2; obtain rfl : i = j := by omega
    rw [hk] at hk'; cases hk'
  | .inner l r, .nil, z, d, h, h2 => by
    have h2 : z = 0 := h2; subst h2; exact h.zero
  | .inner l r, .leaf k v, z, d, h, h2 => by
    obtain ⟨i, hi, e, _, hk, _⟩ := h; obtain ⟨j, hj, e', _, _, hk', _⟩ := h2; obtain rfl : i = j := by omega
    rw [hk] at hk'; cases hk'
  | .inner l r, .inner l' r', z, d, h, h2 => by
    obtain ⟨i, hi, e, _, _, _, _, _, _, hl, hr⟩ := h; obtain ⟨j, hj, e', _, _, _, _, _, _, hl', hr'⟩ := h2; obtain rfl : i = j := by omega
    rw [IsT.uniq hl hl', IsT.uniq hr hr']
def Alike (d : Nat) (ks : List D32) : Prop := ∀ k ∈ ks, ∀ k' ∈ ks, ∀ e, e < d → tb k.l e = tb k'.l e
theorem Alike.sub {d : Nat} {ks ms : List D32} (h : Alike d ks) (hs : ∀ k ∈ ms, k ∈ ks) : Alike d ms := fun k hk k' hk' => h k (hs k hk) k' (hs k' hk')
theorem Alike.next {d : Nat} {ks : List D32} {b : Bool} (h : Alike d ks) (hb : ∀ k ∈ ks, tb k.l d = b) : Alike (d + 1) ks := fun k hk k' hk' e he => by
  by_cases hed : e = d
  · subst hed; rw [hb k hk, hb k' hk']
  · exact h k hk k' hk' e (by omega)
section
variable {d : Nat} {l r t1 t2 : Tre} {a b : List WE}
theorem xgc {told t : Tre} {es : List WE} {x : Bool} (h : SpB (d + 1) told es t) (ht : ∀ k ∈ told.keys, tb k.l d = x) (he : ∀ k ∈ xa2 es, tb k.l d = x) : ∀ k ∈ t.keys, tb k.l d = x := fun k hk => by
  obtain ⟨v, hv⟩ := xdo hk; rcases (h.sp k v).1 hv with h1 | ⟨_, h1⟩
  · exact he k (by rw [← xc4]; exact List.mem_map.2 ⟨_, h1, rfl⟩)
  · exact ht k (xc3 h1)
theorem xi7 {told t : Tre} {es : List WE} {d : Nat} (h : SpB d told es t) : ∀ k ∈ t.keys, k ∈ told.keys ++ xa2 es := fun k hk => by
  obtain ⟨v, hv⟩ := xdo hk; rcases (h.sp k v).1 hv with h1 | ⟨_, h1⟩
  · exact List.mem_append.2 (.inr (by rw [← xc4]; exact List.mem_map.2 ⟨_, h1, rfl⟩))
  · exact List.mem_append.2 (.inl (xc3 h1))
theorem xq4 (hl : ∀ k ∈ l.keys, tb k.l d = false) (hr : ∀ k ∈ r.keys, tb k.l d = true) (ha : ∀ k ∈ xa2 a, tb k.l d = false) (hb : ∀ k ∈ xa2 b, tb k.l d = true) (h1 : SpB (d + 1) l a t1) (h2 : SpB (d + 1) r b t2) (k : D32) (v : List UInt8) :
    (k, v) ∈ t1.ents ++ t2.ents ↔ ((k, some v) ∈ (a ++ b).map pw ∨ (k ∉ xa2 (a ++ b) ∧ (k, v) ∈ (Tre.inner l r).ents)) := by
  have hkw : xa2 (a ++ b) = xa2 a ++ xa2 b := by simp [xa2]
  rw [List.mem_append, h1.sp, h2.sp, hkw, List.map_append, List.mem_append, List.mem_append, not_or]; show _ ↔ _ ∨ _ ∧ (k, v) ∈ l.ents ++ r.ents; rw [List.mem_append]; constructor
  · rintro ((h | ⟨h, h'⟩) | (h | ⟨h, h'⟩))
    · exact .inl (.inl h)
    · refine .inr ⟨⟨h, fun hk => ?_⟩, .inl h'⟩
      have e1 := hl k (xc3 h'); rw [hb k hk] at e1; cases e1
    · exact .inl (.inr h)
    · refine .inr ⟨⟨fun hk => ?_, h⟩, .inr h'⟩
      have e1 := hr k (xc3 h'); rw [ha k hk] at e1; cases e1
  · rintro ((h | h) | ⟨⟨h, h'⟩, h3 | h3⟩)
    · exact .inl (.inl h)
    · exact .inr (.inl h)
    · exact .inl (.inr ⟨h, h3⟩)
    · exact .inr (.inr ⟨h', h3⟩)
theorem xq5 (hd : d < 256) (hal : Alike d ((Tre.inner l r).keys ++ xa2 (a ++ b))) (hl : ∀ k ∈ l.keys, tb k.l d = false) (hr : ∀ k ∈ r.keys, tb k.l d = true) (ha : ∀ k ∈ xa2 a, tb k.l d = false) (hb : ∀ k ∈ xa2 b, tb k.l d = true) (h1 : SpB (d + 1) l a t1) (h2 : SpB (d + 1) r b t2) :
    SpB d (.inner l r) (a ++ b) (xci t1 t2) := by
  have hkw : xa2 (a ++ b) = xa2 a ++ xa2 b := by simp [xa2]
  refine ⟨xq1 hd h1.ok h2.ok (xgc h1 hl ha) (xgc h2 hr hb) fun k hk k' hk' => ?_, fun k v => ?_, ?_⟩
  · have hm : ∀ k ∈ t1.keys ++ t2.keys, k ∈ (Tre.inner l r).keys ++ xa2 (a ++ b) := fun k hk => by
      rw [hkw]; show k ∈ (l.keys ++ r.keys) ++ _; rcases List.mem_append.1 hk with hk | hk
      · rcases List.mem_append.1 (xi7 h1 k hk) with h | h <;> simp [h]
      · rcases List.mem_append.1 (xi7 h2 k hk) with h | h <;> simp [h]
    exact hal k (hm k hk) k' (hm k' hk')
  · rw [xlb h1.ok h2.ok]
    exact xq4 hl hr ha hb h1 h2 k v
  · have q := xla t1 t2
    have q1 := h1.sz; have q2 := h2.sz; show (xci t1 t2).size ≤ l.size + r.size + (a ++ b).length; rw [List.length_append]; omega
theorem xi8 (hok : (Tre.inner l r).Ok d) (hl : ∀ k ∈ l.keys, tb k.l d = false) (hr : ∀ k ∈ r.keys, tb k.l d = true) (ha : ∀ k ∈ xa2 a, tb k.l d = false) (hb : ∀ k ∈ xa2 b, tb k.l d = true) (h1 : SpB (d + 1) l a l) (h2 : SpB (d + 1) r b r) :
    SpB d (.inner l r) (a ++ b) (.inner l r) := ⟨hok, fun k v => xq4 hl hr ha hb h1 h2 k v, by omega⟩
end
theorem sp_none {d : Nat} {t : Tre} (h : t.Ok d) : SpB d t [] t := ⟨h, fun k v => by simp [xa2], by simp⟩
theorem xsu {d : Nat} (hd : d < 256) {es : List WE} (hr : xfh es) (hal : Alike d (xa2 es)) : (∀ k ∈ xa2 (es.take (xbe d (es.map Prod.fst))), tb k.l d = false) ∧ (∀ k ∈ xa2 (es.drop (xbe d (es.map Prod.fst))), tb k.l d = true) := by
  have hz : xbe d (es.map Prod.fst) = (es.takeWhile fun e => !tb e.1.key.l d).length := by
    unfold xbe; rw [List.takeWhile_map, List.length_map]; rfl
  have e1 : es.take (xbe d (es.map Prod.fst)) = es.takeWhile fun e => !tb e.1.key.l d := by
    rw [hz]; have h9 : ∀ A B : List WE, A ++ B = es → es.take A.length = A := by rintro A B rfl; exact List.take_left' rfl
    exact h9 _ _ List.takeWhile_append_dropWhile
  have e2 : es.drop (xbe d (es.map Prod.fst)) = es.dropWhile fun e => !tb e.1.key.l d := by
    rw [hz]; have h9 : ∀ A B : List WE, A ++ B = es → es.drop A.length = B := by rintro A B rfl; exact List.drop_left' rfl
    exact h9 _ _ List.takeWhile_append_dropWhile
  rw [e1, e2]; refine ⟨fun k hk => ?_, ?_⟩
  · obtain ⟨e, he, rfl⟩ := List.mem_map.1 hk
    have := List.all_eq_true.1 (List.all_takeWhile (p := fun e : WE => !tb e.1.key.l d) (l := es)) e he; simpa using this
  · clear hz e1 e2
    induction es with
    | nil => intro k hk; cases hk
    | cons x es ih =>
      intro k hk; obtain ⟨h1, h2⟩ := List.pairwise_cons.1 hr
      cases hb : tb x.1.key.l d with
      | false =>
        rw [List.dropWhile_cons, hb] at hk; exact ih h2 (hal.sub fun k hk => by simp [xa2] at hk ⊢; exact .inr hk) k (by simpa using hk)
      | true =>
        rw [List.dropWhile_cons, hb] at hk; have hk : k ∈ xa2 (x :: es) := by simpa using hk
        obtain ⟨e, he, rfl⟩ := List.mem_map.1 hk; rcases List.mem_cons.1 he with rfl | he
        · exact hb
        · exact xn7 x.1.key.h e.1.key.h d hd (hal x.1.key (by simp [xa2]) e.1.key (List.mem_map.2 ⟨e, List.mem_cons_of_mem _ he, rfl⟩)) (h1 e he) hb
end Go.Proofs.YtkjjdgnkelchfaaGreat
