import Derived.Test.YtkjjdgnkelchfaaGreatPTU15
set_option linter.unusedSimpArgs false
set_option linter.unusedVariables false
set_option maxRecDepth 100000
set_option maxHeartbeats 16000000
namespace Go.Proofs.YtkjjdgnkelchfaaGreat
open Go Go.RowKit
theorem Wys.cut {M : Nat} {Gs : List (Nat × Nat × List Value)} {xs : List Prv} (h : Wys M Gs xs) (i : Nat) (hi : i ≤ xs.length) : ∃ (GA GB : List (Nat × Nat × List Value)) (ys zs : List Prv), Gs = GA ++ GB ∧ xs = ys ++ zs ∧ ys.length = i ∧ Wys M GA ys ∧ Wys M GB zs := by
  induction h generalizing i with
  | nil => exact ⟨[], [], [], [], rfl, rfl, by simp at hi; simp [hi], .nil, .nil⟩
  | @cons Gs G xs x ds h1 h2 hs ih =>
    cases i with
    | zero => exact ⟨[], G ++ Gs, [], x :: xs, rfl, rfl, rfl, .nil, .cons h1 h2 hs⟩
    | succ i =>
      obtain ⟨GA, GB, ys, zs, e1, e2, e3, h4, h5⟩ := ih i (by simpa using hi); subst e1 e2; exact ⟨G ++ GA, GB, x :: ys, zs, by rw [List.append_assoc], rfl, by simp [e3], .cons h1 h2 h4, h5⟩
theorem xdu {P : Program} {T E : TypeId} {z b : Nat} {zv : Value} {w0 w : World} {D : Nat → Prop} {L : List (Nat × Nat × List Value)} {o : Oper} {a : Act} {K : Act → World → Prop} {Q : Exit → Act → World → Prop} (B : ST P T E z) (I : ET P E zv z b) (hz : z ≤ 10000) (x : Operand) (ho : o.op = .buildSlice T 1 #[(0, x)]) (H : Loc w0 D L w) (cs : List Value) (hx : a.eval x = .agg cs.toArray) (hl : cs.length = z)
    (h : ∀ g w', Loc w0 D ((g, E, cs) :: L) w' → K (a.put o.dst (.slice (some ⟨g, 0, none⟩) 1 1)) w') : o.wp P a w K Q := xia B I hz x ho cs hx hl (h _ _ (H.new E cs))
abbrev RB (gr gw : Nat) (rest ways : Sv) (xs : List Prv) (Gs : List (Nat × Nat × List Value)) : List (Nat × Nat × List Value) := (gr, 199, rdrC rest tagE ways) :: (gw, 34, xs.flatMap Prv.cells) :: (Gs ++ [])
def WyO (w0 : World) (B : List (Nat × Nat × List Value)) (gr gw : Nat) (rest ways : Sv) (n M : Nat) (e : Ending) (w' : World) : Prop := ∃ (xs' : List Prv) (Gs' : List (Nat × Nat × List Value)), e = .returned (.tuple #[]) ∧ Wys M Gs' xs' ∧ xs'.length = n ∧ Loc w0 (Rest w0 B) (RB gr gw rest ways xs' Gs') w'
section
variable {w w' : World}
theorem end_any (gr gw : Nat) (rest : Sv) (n : Nat) (xs : List Prv) (Gs : List (Nat × Nat × List Value)) (M : Nat) (b : Brv) (lo hi : Nat) (w : World) (hW : Wys M Gs xs) (hxl : xs.length = n) (hlh : lo ≤ hi ∧ hi ≤ n) (hn : n ≤ 1000000)
    (H : Loc w (Rest w (RB gr gw rest ⟨some ⟨gw, 0, none⟩, n, n⟩ xs Gs)) (RB gr gw rest ⟨some ⟨gw, 0, none⟩, n, n⟩ xs Gs) w) :
    Calls Tryz.prog 167 #[.pointer (some ⟨gr, 0, none⟩), .agg b.cells.toArray, .int .i64 (lo : Int), .int .i64 (hi : Int)] w (WyO w (RB gr gw rest ⟨some ⟨gw, 0, none⟩, n, n⟩ xs Gs) gr gw rest ⟨some ⟨gw, 0, none⟩, n, n⟩ n M) := by
  have HL := H; clear H; generalize hRD : Rest w (RB gr gw rest ⟨some ⟨gw, 0, none⟩, n, n⟩ xs Gs) = RD at HL; have HRD := hZ hRD; have HXL := hZ hxl; clear hRD hxl; obtain ⟨w0, rfl⟩ := eW w; generalize hB0 : RB gr gw rest ⟨some ⟨gw, 0, none⟩, n, n⟩ xs Gs = B0 at HRD ⊢; have HB0 := hZ hB0; clear hB0; go_enter Tryz.func167, Tryz.ntmps167; go_upto_region 0 with fail; refine Xv ?_; refine X2x ?_; clear HL; intro g5 w HL; refine X22 ?_; go_upto_region 1 with fail; refine X6x ?_; go_wp2_with fail
  go_loopw [8] (fun z wr => ∃ (i : Nat) (xs' : List Prv), lo ≤ i ∧ i ≤ hi ∧ z = .int .i64 (i : Int) ∧ xs'.length = n ∧ Wys M Gs xs' ∧ Loc w0 RD ((g5, 124, b.cells) :: RB gr gw rest ⟨some ⟨gw, 0, none⟩, n, n⟩ xs' Gs) wr) (fun z _ => (hi - intOf z).toNat)
  case atStart => exact ⟨lo, xs, Nat.le_refl _, hlh.1, rfl, HXL.out, hW, HL⟩
  case round =>
    clear HL hW; obtain ⟨i, xs', hi1, hi2, rfl, hxl, hW, HL⟩ := hrel; obtain ⟨w2, rfl⟩ := eW wr; have HXS := hZ hxl; clear hxl; by_cases hlt : i < hi
    · have k2 : decide ((i : Int) < (hi : Int)) = true := by simp; omega
      refine Xaa ?_; intro HI; have hin : i < n := by omega
      have hix : i < xs'.length := by have := HXS.out; omega
      by_cases hk : b.kind = 1
      · have k4 : ((b.kind : Int) == 1) = true := by rw [hk]; rfl
        have hsp := xgl Prv.len xs' [] i 1 (⟨1, b.key, b.val, D32.z, D32.z⟩ : Nod).cells (xs'[i].setN ⟨1, b.key, b.val, D32.z, D32.z⟩) hix (by rw [Nod.len]; decide) (Prv.s_nod _ _); rw [List.append_nil, List.append_nil] at hsp; have hfit : i * 130 + 1 + 129 ≤ (xs'.flatMap Prv.cells).length := by rw [xbx Prv.len, HXS.out]; omega
        have hW' := hW.end_ i hix ⟨1, b.key, b.val, D32.z, D32.z⟩; have hl' : (xs'.set i (xs'[i].setN ⟨1, b.key, b.val, D32.z, D32.z⟩)).length = n := by rw [List.length_set]; exact HXS.out
        generalize xs'.set i (xs'[i].setN ⟨1, b.key, b.val, D32.z, D32.z⟩) = ys at hsp hW' hl'; go_upto_region 2 with fail; refine Xho ?_; go_upto_region 4 with fail; refine Xhp ?_; refine Xc6 ?_; refine X22 ?_; go_upto_region 5 with fail; refine rB (Loc.P HL) [12] [10, 12] [0, 1, 2, 3, 4, 5, 6, 7, 8, 9, 10, 11, 12] 0 ?_; refine X3b ?_; intro HL; refine Xhq ?_; refine X5 ?_; refine Xhr ?_; refine X3d ?_; refine Xhs ?_; refine xac rfl rfl HL (fun W hW => xau ag24 hW _ rfl _ _ rfl _ _ _ (.head _) (Brv.g_key _) (D32.cl _)) ?_; refine X5 ?_; refine Xgy ?_; refine X5 ?_; refine xac rfl rfl HL (fun W hW => xau ag23 hW _ rfl _ _ rfl _ _ _ (.head _) (Brv.g_val _) (D32.cl _)) ?_; refine X9z ?_; refine Xk ?_; intro K hK; refine xbs (xbe xoj _ _ rfl gw n n i .i64 rfl rfl hin) ?_; refine X3w ?_; clear hK K; refine xac rfl rfl HL (fun W hW => xcr xjx _ rfl _ _ rfl) ?_
        refine Xk ?_; intro K hK; refine xlx ag32 _ _ rfl HL 2 gw (i * 130 + 1) 34 _ _ _ rfl rfl rfl (Nod.len _) hfit (Nod.one _) hsp ?_; clear HL; intro w3 HL; simp only [qg, qh] at HL; refine Xak ?_; clear hK K; go_upto_region 3 with fail; refine Xbh ?_; go_wp2_with fail; go_roundw
        case rel => exact ⟨i + 1, ys, by omega, by omega, rfl, hl', hW', HL⟩
        case measure => simp [intOf] <;> omega
      · have k4 : ((b.kind : Int) == 1) = false := nB (by omega)
        go_upto_region 2 with fail; refine Xho ?_; go_upto_region 4 with fail; refine Xhp ?_; refine Xcp ?_; refine X22 ?_; go_upto_region 3 with fail; refine Xbh ?_; go_wp2_with fail; go_roundw
        case rel => exact ⟨i + 1, xs', by omega, by omega, rfl, HXS.out, hW, HL⟩
        case measure => simp [intOf] <;> omega
    · have k2 : decide ((i : Int) < (hi : Int)) = false := by simp; omega
      go_upto_region 2 with fail; refine Xho ?_; go_wp2_with fail
      go_end0
      exact ⟨xs', Gs, rfl, hW, HXS.out, by rw [HRD.out]; exact HL.drop _ (sB _ _)⟩
theorem xl6 (gr gw : Nat) (rest : Sv) (n : Nat) (xs0 : List Prv) (Gs0 : List (Nat × Nat × List Value)) (M : Nat) (h : D32) (lo hi : Nat) (w : World) (hW : Wys M Gs0 xs0) (hxl : xs0.length = n) (hlh : lo ≤ hi ∧ hi ≤ n) (hn : n ≤ 1000000) (hM : M ≤ 1000000)
    (H : Loc w (Rest w (RB gr gw rest ⟨some ⟨gw, 0, none⟩, n, n⟩ xs0 Gs0)) (RB gr gw rest ⟨some ⟨gw, 0, none⟩, n, n⟩ xs0 Gs0) w) :
    Calls Tryz.prog 169 #[.pointer (some ⟨gr, 0, none⟩), h.a, .int .i64 (lo : Int), .int .i64 (hi : Int)] w (WyO w (RB gr gw rest ⟨some ⟨gw, 0, none⟩, n, n⟩ xs0 Gs0) gr gw rest ⟨some ⟨gw, 0, none⟩, n, n⟩ n (M + 1)) := by
  have HL := H; clear H; generalize hRD : Rest w (RB gr gw rest ⟨some ⟨gw, 0, none⟩, n, n⟩ xs0 Gs0) = RD at HL; have HRD := hZ hRD; have HXL := hZ hxl; clear hRD hxl; obtain ⟨w0, rfl⟩ := eW w; generalize hB0 : RB gr gw rest ⟨some ⟨gw, 0, none⟩, n, n⟩ xs0 Gs0 = B0 at HRD ⊢; have HB0 := hZ hB0; clear hB0; go_enter Tryz.func169, Tryz.ntmps169; go_upto_region 0 with fail; refine Xv ?_; refine X2x ?_; clear HL; intro g5 w HL; refine X22 ?_; go_upto_region 1 with fail; refine X6x ?_; go_wp2_with fail
  go_loopw [8] (fun z wr => ∃ (i : Nat) (ys zs : List Prv) (GY GZ : List (Nat × Nat × List Value)), lo ≤ i ∧ i ≤ hi ∧ z = .int .i64 (i : Int) ∧ ys.length = i ∧ ys.length + zs.length = n ∧ Wys (M + 1) GY ys ∧ Wys M GZ zs ∧ Loc w0 RD ((g5, 23, h.c) :: RB gr gw rest ⟨some ⟨gw, 0, none⟩, n, n⟩ (ys ++ zs) (GY ++ GZ)) wr) (fun z _ => (hi - intOf z).toNat)
  case atStart =>
    obtain ⟨GY, GZ, ys, zs, e1, e2, e3, h4, h5⟩ := hW.cut lo (by have := HXL.out; omega); subst e1 e2; exact ⟨lo, ys, zs, GY, GZ, Nat.le_refl _, hlh.1, rfl, e3, by have := HXL.out; rw [List.length_append] at this; exact this, h4.mono (by omega), h5, HL⟩
  case round =>
    clear HL hW; obtain ⟨i, ys, zs, GY, GZ, hi1, hi2, rfl, hyl, hxl, hWY, hWZ, HL⟩ := hrel; obtain ⟨w2, rfl⟩ := eW wr; have HYL := hZ hyl; have HXS := hZ hxl; clear hyl hxl; by_cases hlt : i < hi
    · have k2 : decide ((i : Int) < (hi : Int)) = true := by simp; omega
      refine Xaa ?_; intro HI; have hin : i < n := by omega
      cases hWZ with
      | nil => exfalso; have h1 := HXS.out; have h2 := HYL.out; simp only [qs] at h1; omega
      | @cons GZ' G zs' x ds hG hm hs =>
        have hlen : (ys ++ x :: zs').length = n := by rw [List.length_append]; exact HXS.out
        have hix : i < (ys ++ x :: zs').length := by omega
        have hxi : (ys ++ x :: zs')[i] = x := by
          have e := HYL.out; subst e; simp
        have hget := xj0 Prv.len (ys ++ x :: zs') [] i 0 hix (by decide); rw [List.append_nil, hxi, Prv.g_sides, Nat.add_zero] at hget; have hfit : i * 130 < ((ys ++ x :: zs').flatMap Prv.cells).length := by rw [xbx Prv.len, hlen]; omega
        go_upto_region 2 with fail; refine Xho ?_; have HX : Loc w0 RD (((g5, 23, h.c) :: (gr, 199, rdrC rest tagE ⟨some ⟨gw, 0, none⟩, n, n⟩) :: (gw, 34, (ys ++ x :: zs').flatMap Prv.cells) :: GY) ++ (G ++ (GZ' ++ []))) w2 := by simpa [RB, List.append_assoc] using HL
        clear HL; refine Xht ?_; intro HL; go_upto_region 4 with fail; refine rB (Loc.P HL) [18] [14, 15, 16, 18] [0, 1, 2, 3, 4, 5, 6, 7, 8, 9, 10, 11, 12, 13, 14, 15, 16, 17, 18] 0 ?_; refine X3b ?_; intro HL; refine Xhq ?_; refine X5 ?_; refine Xhr ?_; refine X6k ?_; refine X3a ?_; refine Xhq ?_; refine X5 ?_; refine Xhr ?_; refine X3d ?_; refine xac rfl rfl HL (fun W hW => xbe xoj _ _ rfl gw n n i .i64 rfl rfl hin) ?_; refine X5 ?_; refine Xhu ?_; refine X5 ?_; refine xac rfl rfl HL (fun W hW => xag sc29 hW _ rfl _ _ rfl _ _ _ (.tail _ (.tail _ (.head _))) hget) ?_; refine X5 ?_; refine X62 ?_; refine Xk ?_; intro K hK; refine Xhv ?_; clear HX HL; intro g29 w HX; refine Xht ?_; intro HL; refine X3x ?_; clear hK K; intro K hK
        refine xam sl29 el23 _ _ rfl ((g29, 23, h.c) :: ((g5, 23, h.c) :: (gr, 199, rdrC rest tagE ⟨some ⟨gw, 0, none⟩, n, n⟩) :: (gw, 34, (ys ++ x :: zs').flatMap Prv.cells) :: GY)) _ x.sides _ hG HX rfl ⟨g29, 0, none⟩ 1 1 h.c rfl (Rd.of_blk0 (es := []) (by simpa using HX.blk (.head _))) (D32.cl _) (D32.c1 _) (by omega) (by omega) (by omega) ?_; clear HX HL; intro sv' G' w hG' HX; refine Xht ?_; intro HL; refine X3x ?_; clear hK K; intro K hK; refine xbs (xbe xoj _ _ rfl gw n n i .i64 rfl rfl hin) ?_; refine X3w ?_; clear hK K; refine Xhu ?_; refine Xk ?_; intro K hK; have hset := fm_set Prv.len (ys ++ x :: zs') [] i 0 sv'.v ({x with sides := sv'} : Prv) hix (by decide) (by rw [hxi]; exact Prv.s_sides _ _); rw [List.append_nil, List.append_nil, Nat.add_zero] at hset
        have hys : (ys ++ x :: zs').set i ({x with sides := sv'} : Prv) = ys ++ ({x with sides := sv'} : Prv) :: zs' := by
          have e := HYL.out; subst e; simp
        rw [hys] at hset; refine xbh sc29 _ _ rfl HX 3 gw (i * 130) 34 _ _ sv'.v rfl rfl rfl rfl hfit hset ?_; clear HX HL; intro w HX; simp only [qg, qh, qm] at HX; refine Xak ?_; clear hK K; go_upto_region 3 with fail; refine Xbh ?_; go_wp2_with fail; go_roundw
        case rel =>
          refine ⟨i + 1, ys ++ [({x with sides := sv'} : Prv)], zs', GY ++ G', GZ', by omega, by omega, rfl, by rw [List.length_append, HYL.out]; rfl, ?_, ?_, hs, ?_⟩
          · have h1 := HXS.out
            simp only [qp, qr, qs] at h1 ⊢; omega
          · have h2 : Wys (M + 1) (G' ++ []) [({x with sides := sv'} : Prv)] := .cons (ds := ds ++ [h]) (by rw [List.length_append, List.flatMap_append]; simpa using hG') (by rw [List.length_append]; simp only [qr, qs]; omega) .nil
            rw [List.append_nil] at h2; exact hWY.app h2
          · have HL2 := HX.drop _ (sB _ _)
            simpa [RB, List.append_assoc] using HL2
        case measure => simp [intOf] <;> omega
    · have k2 : decide ((i : Int) < (hi : Int)) = false := by simp; omega
      go_upto_region 2 with fail; refine Xho ?_; go_wp2_with fail
      go_end0
      exact ⟨ys ++ zs, GY ++ GZ, rfl, hWY.app (hWZ.mono (by omega)), by rw [List.length_append]; exact HXS.out, by rw [HRD.out]; exact HL.drop _ (sB _ _)⟩
end
def plM (ks : List D32) : Nat → List Brv → Nat → Nat → D32 → Nat → Option (D32 × List Brv)
  | _, [], _, _, _, _ => none
  | n, b :: rest, lo, hi, top, d =>
    if xa9 b = false then none
    else if b.kind = 0 then some (tagE, rest)
    else if b.kind = 3 then (if lo < hi then none else some (b.dig, rest))
    else if b.kind = 1 then (if lo < hi ∧ xa1 b.key.l top.l d = true then some (tagL b.key b.val, rest) else none)
    else if ¬ lo < hi ∨ 256 ≤ d then none
    else match n with
      | 0 => none
      | n + 1 => match plM ks n rest lo (lo + xf6 ((ks.drop lo).take (hi - lo)) d) top (d + 1) with
        | none => none
        | some (l, r1) => match plM ks n r1 (lo + xf6 ((ks.drop lo).take (hi - lo)) d) hi (xdm top d) (d + 1) with
          | none => none
          | some (r, r2) => some (tagI l r, r2)
theorem xg1 {b : Brv} (h : xa9 b = true) (h0 : b.kind ≠ 0) (h3 : b.kind ≠ 3) (h1 : b.kind ≠ 1) : b.kind = 2 := by
  unfold xa9 at h; by_cases h2 : b.kind = 2
  · exact h2
  · rw [if_neg (by omega), if_neg h1, if_neg h3] at h
    cases h
structure BrD (D : Nat → Prop) (W : World) (sv : Sv) (bs : List Brv) : Prop where
  s : BrS W sv bs
  d : bs ≠ [] → ∀ ad, sv.A = some ad → D ad.block
structure KyD (D : Nat → Prop) (W : World) (A : Option Addr) (n c : Nat) (ks : List D32) : Prop where
  s : KyS W A n c ks
  d : ks ≠ [] → ∀ ad, A = some ad → D ad.block
section
variable {W0 w : World} {D : Nat → Prop} {L : List (Nat × Nat × List Value)} {sv : Sv} {bs : List Brv} {A : Option Addr} {n c : Nat} {ks : List D32}
theorem Rd.keepE {A : Option Addr} {cs : List Value} (h : Rd W0 A cs) (H : Loc W0 D L w) (hD : cs ≠ [] → ∀ ad, A = some ad → D ad.block) : Rd w A cs := by
  intro hn; exact Rd.keep0 h H (fun ad e _ => hD (by intro e2; rw [e2] at hn; exact absurd hn (by simp)) ad e) hn
theorem BrD.at (h : BrD D W0 sv bs) (H : Loc W0 D L w) : BrS w sv bs := ⟨h.s.rd.keepE H (fun hne ad e => h.d (by rintro rfl; exact hne rfl) ad e), h.s.len, h.s.cap, h.s.k⟩
theorem KyD.at (h : KyD D W0 A n c ks) (H : Loc W0 D L w) : KyS w A n c ks := ⟨h.s.rd.keepE H (fun hne ad e => h.d (by rintro rfl; exact hne rfl) ad e), h.s.len, h.s.cap⟩
theorem BrD.tail {sv : Sv} {b : Brv} {bs : List Brv} (h : BrD D W0 sv (b :: bs)) : BrD D W0 ⟨cutA sv.A sv.c 1 97, sv.n - 1, sv.c - 1⟩ bs := by
  have hl := h.s.len; have hc := h.s.cap; simp only [qr] at hl; refine ⟨⟨?_, by show bs.length = sv.n - 1; omega, by show sv.n - 1 ≤ sv.c - 1; omega, fun x hx => h.s.k x (List.mem_cons_of_mem _ hx)⟩, fun hne ad e => ?_⟩
  · have h1 := h.s.rd.cutA (c := sv.c) (lo := 1) (z := 97) (by rw [xbx Brv.len, List.length_cons]; exact Nat.mul_le_mul_right _ (by omega)) (bs.length * 97)
    have e : (((b :: bs).flatMap Brv.cells).drop (1 * 97)).take (bs.length * 97) = bs.flatMap Brv.cells := by
      rw [List.flatMap_cons]; have e1 : 1 * 97 = b.cells.length := by rw [Brv.len]
      rw [e1, List.drop_left, List.take_of_length_le (by rw [xbx Brv.len]; exact Nat.le_refl _)]
    rw [e] at h1; exact h1
  · have e' : cutA sv.A sv.c 1 97 = some ad := e
    unfold cutA at e'
    split at e'
    · exact h.d (by simp) ad e'
    · cases hA : sv.A with
      | none => rw [hA] at e'; cases e'
      | some a0 =>
        rw [hA] at e'; simp only [Option.map_some, Option.some.injEq] at e'; have hb : ad.block = a0.block := by rw [← e']; unfold Addr.add; split <;> rfl
        rw [hb]; exact h.d (by simp) a0 hA
end
abbrev RX (gr gw : Nat) (rest ways : Sv) (xs : List Prv) (Gs X : List (Nat × Nat × List Value)) : List (Nat × Nat × List Value) := (gr, 199, rdrC rest tagE ways) :: (gw, 34, xs.flatMap Prv.cells) :: (Gs ++ X)
section
variable {W0 w : World} {D : Nat → Prop} {a b : Nat × Nat × List Value} {G X : List (Nat × Nat × List Value)}
theorem Loc.inX (locs : List (Nat × Nat × List Value)) (H : Loc W0 D (locs ++ (a :: b :: (G ++ X))) w) : Loc W0 D (a :: b :: (G ++ (X ++ locs))) w := H.perm (by
  have := (List.perm_append_comm (l₁ := a :: b :: (G ++ X)) (l₂ := locs))
  simpa [List.append_assoc] using this)
theorem Loc.outX (locs : List (Nat × Nat × List Value)) (H : Loc W0 D (a :: b :: (G ++ (X ++ locs))) w) : Loc W0 D (locs ++ (a :: b :: (G ++ X))) w := H.perm (by
  have := (List.perm_append_comm (l₁ := locs) (l₂ := a :: b :: (G ++ X)))
  simpa [List.append_assoc] using this)
theorem Loc.inY (locs : List (Nat × Nat × List Value)) (H : Loc W0 D (locs ++ (a :: b :: (G ++ X))) w) : Loc W0 D ((locs ++ X) ++ (a :: b :: (G ++ []))) w := H.perm (by
  rw [List.append_assoc, List.append_nil]; refine List.Perm.append_left _ ?_; have := (List.perm_append_comm (l₁ := X) (l₂ := a :: b :: G))
  simpa using this)
theorem Loc.outY (locs : List (Nat × Nat × List Value)) (H : Loc W0 D ((locs ++ X) ++ (a :: b :: (G ++ []))) w) : Loc W0 D (locs ++ (a :: b :: (G ++ X))) w := H.perm (by
  rw [List.append_assoc, List.append_nil]; refine List.Perm.append_left _ ?_; have := (List.perm_append_comm (l₁ := a :: b :: G) (l₂ := X))
  simpa using this)
end
def PlO (W0 : World) (D : Nat → Prop) (X : List (Nat × Nat × List Value)) (gr gw : Nat) (ways : Sv) (n M R : Nat) (q : Option (D32 × List Brv)) (e : Ending) (w' : World) : Prop :=
  ∃ (h : D32) (ok : Bool) (rest' : Sv) (bs' : List Brv) (xs' : List Prv) (Gs' : List (Nat × Nat × List Value)), e = .returned (.tuple #[h.a, .bool ok]) ∧ BrD D W0 rest' bs' ∧ bs'.length ≤ R ∧ Wys (M + 2 * (R - bs'.length)) Gs' xs' ∧ xs'.length = n ∧
    Loc W0 D (RX gr gw rest' ways xs' Gs' X) w' ∧ ((ok = true ∧ q = some (h, bs')) ∨ (ok = false ∧ q = none))
section
variable {w w' : World}
theorem xkw (W0 : World) (D : Nat → Prop) (A : Option Addr) (n c : Nat) (ks : List D32) (hKY : KyD D W0 A n c ks) (gr gw : Nat) (hn : n ≤ 1000) (N : Nat) (d : Nat) (X : List (Nat × Nat × List Value)) (rest : Sv) (xs : List Prv) (Gs : List (Nat × Nat × List Value)) (M lo hi : Nat) (top : D32) (w : World) (hB : BrD D W0 rest []) (hW : Wys M Gs xs) (hxl : xs.length = n)
    (H : Loc W0 D (RX gr gw rest ⟨some ⟨gw, 0, none⟩, n, n⟩ xs Gs X) w) :
    Calls Tryz.prog 109 #[.pointer (some ⟨gr, 0, none⟩), .slice A n c, .int .i64 (lo : Int), .int .i64 (hi : Int), top.a, .int .i64 (d : Int)] w (PlO W0 D X gr gw ⟨some ⟨gw, 0, none⟩, n, n⟩ n M 0 (plM ks N [] lo hi top d)) := by
  have HXL := hZ hxl; have HRN := hZ hB.s.len; have k1 : ((rest.n : Int) == 0) = true := by rw [← HRN.out]; rfl
  have hq : plM ks N [] lo hi top d = none := by cases N <;> rfl
  rw [hq]; clear hq hxl; have HL := H; clear H; go_enter Tryz.func109, Tryz.ntmps109; go_upto_region 0 with fail; refine Xhz ?_; clear HL; intro g10 g12 w HL; go_upto_region 1 with fail; refine Xi1 ?_; refine Xgf ?_; refine Xfy ?_; refine X2j ?_; refine X2b ?_; go_upto_region 2 with fail; refine Xi2 ?_; refine X93 ?_; clear HL; intro w HL; go_wp2_with fail; refine Xi3 ?_; exact ⟨D32.z, false, rest, [], xs, Gs, rfl, hB, Nat.zero_le _, hW.mono (by omega), HXL.out, HL.drop _ (sA [_, _] _), .inr ⟨rfl, rfl⟩⟩
theorem plM_cons (ks : List D32) (N : Nat) (b : Brv) (bs : List Brv) (lo hi : Nat) (top : D32) (d : Nat) :
    (xa9 b = false → plM ks N (b :: bs) lo hi top d = none) ∧
    (xa9 b = true → b.kind = 0 → plM ks N (b :: bs) lo hi top d = some (tagE, bs)) ∧
    (xa9 b = true → b.kind = 3 → plM ks N (b :: bs) lo hi top d = if lo < hi then none else some (b.dig, bs)) ∧
    (xa9 b = true → b.kind = 1 → plM ks N (b :: bs) lo hi top d = if lo < hi ∧ xa1 b.key.l top.l d = true then some (tagL b.key b.val, bs) else none) ∧
    (xa9 b = true → b.kind = 2 → (¬ lo < hi ∨ 256 ≤ d) → plM ks N (b :: bs) lo hi top d = none) := by
  refine ⟨fun h => ?_, fun h k => ?_, fun h k => ?_, fun h k => ?_, fun h k k2 => ?_⟩ <;> unfold plM
  · rw [if_pos h]
  · rw [if_neg (by rw [h]; decide), if_pos k]
  · rw [if_neg (by rw [h]; decide), if_neg (by omega), if_pos k]
  · rw [if_neg (by rw [h]; decide), if_neg (by omega), if_neg (by omega), if_pos k]
  · rw [if_neg (by rw [h]; decide), if_neg (by omega), if_neg (by omega), if_neg (by omega), if_pos k2]
theorem xkx (W0 : World) (D : Nat → Prop) (A : Option Addr) (n c : Nat) (ks : List D32) (hKY : KyD D W0 A n c ks) (gr gw : Nat) (hn : n ≤ 1000) (N : Nat) (d : Nat) (X : List (Nat × Nat × List Value)) (rest : Sv) (b : Brv) (bs : List Brv) (xs : List Prv) (Gs : List (Nat × Nat × List Value)) (M lo hi : Nat) (top : D32) (w : World) (hd : d ≤ 256) (hB : BrD D W0 rest (b :: bs)) (hW : Wys M Gs xs) (hxl : xs.length = n) (hlh : lo ≤ hi ∧ hi ≤ n) (hM : M + 2 * (b :: bs).length ≤ 200000)
    (H : Loc W0 D (RX gr gw rest ⟨some ⟨gw, 0, none⟩, n, n⟩ xs Gs X) w) (hflat : xa9 b = false ∨ b.kind ≠ 2 ∨ ¬ lo < hi ∨ 256 ≤ d) :
    Calls Tryz.prog 109 #[.pointer (some ⟨gr, 0, none⟩), .slice A n c, .int .i64 (lo : Int), .int .i64 (hi : Int), top.a, .int .i64 (d : Int)] w (PlO W0 D X gr gw ⟨some ⟨gw, 0, none⟩, n, n⟩ n M (b :: bs).length (plM ks N (b :: bs) lo hi top d)) := by
  have HXL := hZ hxl; have hr0 : 1 ≤ rest.n := by have := hB.s.len; simp only [qr] at this; omega
  have k1 : ((rest.n : Int) == 0) = false := nB (by omega); obtain ⟨ad, hA, _⟩ := hB.s.at_ 0 (by simp); have HSV : Hid (rest.v = .slice (some ad) rest.n rest.c) := hZ (by unfold Sv.v; rw [hA])
  have hbrd : ∀ (L : List (Nat × Nat × List Value)) (W : World), Loc W0 D L W → Rd W (some (ad.add (0 * 97))) b.cells := by
    intro L W hW; obtain ⟨ad', e', h'⟩ := (hB.at hW).at_ 0 (by simp); rw [hA] at e'; cases e'; exact h'
  obtain ⟨hq0, hq1, hq2, hq3, hq4⟩ := plM_cons ks N b bs lo hi top d; generalize plM ks N (b :: bs) lo hi top d = q at hq0 hq1 hq2 hq3 hq4 ⊢; have CC := fun u => hZ (xix b u)
  clear hxl hA; have HL := H; clear H
  cases hcl : xa9 b with
  | false =>
    rw [hcl] at CC; have hq := hq0 hcl; clear hq0 hq1 hq2 hq3 hq4 hcl hflat; have HQ := hZ hq; clear hq; go_enter Tryz.func109, Tryz.ntmps109; go_upto_region 0 with fail; refine Xhz ?_; clear HL; intro g10 g12 w HL; go_upto_region 1 with fail; refine Xi6 ?_; refine Xi8 ?_; intro K hK; refine Xgm ?_; clear hK K; intro w HL; refine Xbb ?_; refine X2c ?_; go_upto_region 2 with fail; refine Xi2 ?_; refine X93 ?_; clear HL; intro w HL; go_wp2_with fail; refine Xi3 ?_; exact ⟨D32.z, false, rest, b :: bs, xs, Gs, rfl, hB, Nat.le_refl _, hW.mono (by omega), HXL.out, HL.drop _ (sA [_, _] _), .inr ⟨rfl, HQ.out⟩⟩
  | true =>
    rw [hcl] at CC; by_cases h0 : b.kind = 0
    · have hq := hq1 hcl h0
      have k7 : ((b.kind : Int) == 0) = true := by rw [h0]; rfl
      clear hq0 hq1 hq2 hq3 hq4 hcl hflat h0; have HQ := hZ hq; clear hq; have k5 : decide ((lo : Int) < (hi : Int)) = decide ((lo : Int) < (hi : Int)) := rfl; go_enter Tryz.func109, Tryz.ntmps109; go_upto_region 0 with fail; refine Xhz ?_; clear HL; intro g10 g12 w HL; go_upto_region 1 with fail; refine Xia ?_; intro w HL; go_upto_region 3 with fail; refine Xic ?_; clear HL; intro g14 w HL; go_upto_region 4 with fail; refine Xid ?_; refine xaw sc42 rfl _ _ rfl HL 3 gr 0 199 _ (rdrC ⟨cutA rest.A rest.c 1 97, rest.n - 1, rest.c - 1⟩ tagE ⟨some ⟨gw, 0, none⟩, n, n⟩) (Sv.v ⟨cutA rest.A rest.c 1 97, rest.n - 1, rest.c - 1⟩) rfl rfl rfl rfl (by rw [xd5]; omega) (xev _ _ _ _) ?_; refine Xie ?_; clear HL; intro w HL HT; generalize (⟨cutA rest.A rest.c 1 97, rest.n - 1, rest.c - 1⟩ : Sv) = rest1 at HL HT; go_upto_region 5 with fail; refine X1b ?_
      refine xaa rfl _ (xa4 (b := decide ((lo : Int) < (hi : Int))) _ _ rfl _ _ rfl rfl k5) ?_; refine X1c ?_; go_upto_region 6 with fail; refine Xfm ?_; go_upto_region 7 with fail; refine Xv ?_; refine xaa rfl _ (xao (b := true) _ _ rfl _ _ rfl rfl k7) ?_; refine X1c ?_; go_upto_region 8 with fail; refine X16 ?_; refine xaa rfl _ (xaf fa199_1 _ rfl _ rfl) ?_; refine X5 ?_; refine xaa rfl _ (xau ag23 HL _ rfl _ _ rfl _ _ _ (.tail _ (.tail _ (.tail _ (.head _)))) (rdrC_1 _ _ _) (D32.cl _)) ?_; refine X9a ?_; clear HL; intro w HL; go_wp2_with fail; refine Xif ?_; exact ⟨tagE, true, rest1, bs, xs, Gs, rfl, HT, by simp, hW.mono (by omega), HXL.out, HL.drop _ (sA [_, _, _] _), .inl ⟨rfl, HQ.out⟩⟩
    have k7 : ((b.kind : Int) == 0) = false := nB (by omega); by_cases h3 : b.kind = 3
    · have hq := hq2 hcl h3
      have k9 : ((b.kind : Int) == 3) = true := by rw [h3]; rfl
      clear hq0 hq1 hq2 hq3 hq4 hcl hflat h0 h3; by_cases hop : lo < hi
      · rw [if_pos hop] at hq
        have HQ := hZ hq; have k5 : decide ((lo : Int) < (hi : Int)) = true := by simp; omega
        clear hq hop; go_enter Tryz.func109, Tryz.ntmps109; go_upto_region 0 with fail; refine Xhz ?_; clear HL; intro g10 g12 w HL; go_upto_region 1 with fail; refine Xia ?_; intro w HL; go_upto_region 3 with fail; refine Xic ?_; clear HL; intro g14 w HL; go_upto_region 4 with fail; refine Xid ?_; refine xaw sc42 rfl _ _ rfl HL 3 gr 0 199 _ (rdrC ⟨cutA rest.A rest.c 1 97, rest.n - 1, rest.c - 1⟩ tagE ⟨some ⟨gw, 0, none⟩, n, n⟩) (Sv.v ⟨cutA rest.A rest.c 1 97, rest.n - 1, rest.c - 1⟩) rfl rfl rfl rfl (by rw [xd5]; omega) (xev _ _ _ _) ?_; refine Xie ?_; clear HL; intro w HL HT; generalize (⟨cutA rest.A rest.c 1 97, rest.n - 1, rest.c - 1⟩ : Sv) = rest1 at HL HT; go_upto_region 5 with fail; refine X1b ?_; refine Xig ?_; refine X1c ?_; go_upto_region 6 with fail; refine Xfm ?_; go_upto_region 7 with fail; refine Xii ?_; go_upto_region 9 with fail; refine Xv ?_; refine Xh6 ?_
        refine X1c ?_; go_upto_region 10 with fail; refine Xg1 ?_; refine X17 ?_; refine Xbp ?_; refine X9a ?_; clear HL; intro w HL; go_wp2_with fail; refine Xif ?_; exact ⟨b.dig, false, rest1, bs, xs, Gs, rfl, HT, by simp, hW.mono (by omega), HXL.out, HL.drop _ (sA [_, _, _] _), .inr ⟨rfl, HQ.out⟩⟩
      · rw [if_neg hop] at hq
        have HQ := hZ hq; have k5 : decide ((lo : Int) < (hi : Int)) = false := by simp; omega
        clear hq hop; go_enter Tryz.func109, Tryz.ntmps109; go_upto_region 0 with fail; refine Xhz ?_; clear HL; intro g10 g12 w HL; go_upto_region 1 with fail; refine Xia ?_; intro w HL; go_upto_region 3 with fail; refine Xic ?_; clear HL; intro g14 w HL; go_upto_region 4 with fail; refine Xid ?_; refine xaw sc42 rfl _ _ rfl HL 3 gr 0 199 _ (rdrC ⟨cutA rest.A rest.c 1 97, rest.n - 1, rest.c - 1⟩ tagE ⟨some ⟨gw, 0, none⟩, n, n⟩) (Sv.v ⟨cutA rest.A rest.c 1 97, rest.n - 1, rest.c - 1⟩) rfl rfl rfl rfl (by rw [xd5]; omega) (xev _ _ _ _) ?_; refine Xie ?_; clear HL; intro w HL HT; generalize (⟨cutA rest.A rest.c 1 97, rest.n - 1, rest.c - 1⟩ : Sv) = rest1 at HL HT; go_upto_region 5 with fail; refine X1b ?_; refine Xij ?_; refine X1c ?_; go_upto_region 6 with fail; refine Xfm ?_; go_upto_region 7 with fail; refine Xii ?_; go_upto_region 9 with fail; refine Xv ?_; refine Xh6 ?_
        refine X1c ?_; go_upto_region 10 with fail; refine Xg1 ?_; refine X17 ?_; refine Xbw ?_; refine X9a ?_; clear HL; intro w HL; go_wp2_with fail; refine Xif ?_; exact ⟨b.dig, true, rest1, bs, xs, Gs, rfl, HT, by simp, hW.mono (by omega), HXL.out, HL.drop _ (sA [_, _, _] _), .inl ⟨rfl, HQ.out⟩⟩
    have k9 : ((b.kind : Int) == 3) = false := nB (by omega); by_cases h1 : b.kind = 1
    · have hq := hq3 hcl h1
      have k11 : ((b.kind : Int) == 1) = true := by rw [h1]; rfl
      clear hq0 hq1 hq2 hq3 hq4 hcl hflat h0 h3 h1; by_cases hop : lo < hi
      · obtain ⟨un, hun⟩ : ∃ un, xa1 b.key.l top.l (d : Int) = un := ⟨_, rfl⟩
        have CU := fun u => hZ (xhn u b.key top (d : Int) (by omega))
        rw [hun] at hq; simp only [hun] at CU; have k5 : decide ((lo : Int) < (hi : Int)) = true := by simp; omega
        have HQ := hZ hq; have HOP := hZ hop; clear hq hop hun; go_enter Tryz.func109, Tryz.ntmps109; go_upto_region 0 with fail; refine Xhz ?_; clear HL; intro g10 g12 w HL; go_upto_region 1 with fail; refine Xia ?_; intro w HL; go_upto_region 3 with fail; refine Xic ?_; clear HL; intro g14 w HL; go_upto_region 4 with fail; refine Xid ?_; refine xaw sc42 rfl _ _ rfl HL 3 gr 0 199 _ (rdrC ⟨cutA rest.A rest.c 1 97, rest.n - 1, rest.c - 1⟩ tagE ⟨some ⟨gw, 0, none⟩, n, n⟩) (Sv.v ⟨cutA rest.A rest.c 1 97, rest.n - 1, rest.c - 1⟩) rfl rfl rfl rfl (by rw [xd5]; omega) (xev _ _ _ _) ?_; refine Xie ?_; clear HL; intro w HL HT; generalize (⟨cutA rest.A rest.c 1 97, rest.n - 1, rest.c - 1⟩ : Sv) = rest1 at HL HT; go_upto_region 5 with fail; refine X1b ?_; refine Xig ?_; refine X1c ?_; go_upto_region 6 with fail; refine Xfm ?_; go_upto_region 7 with fail; refine Xii ?_
        go_upto_region 9 with fail; refine Xhd ?_; go_upto_region 11 with fail; refine Xv ?_; refine Xgw ?_; refine X1c ?_; go_upto_region 12 with fail; refine X14 ?_; refine Xfo ?_; refine X17 ?_; refine Xam ?_; intro K hK; refine xad cf167 rfl _ rfl ?_; refine X1z ?_; refine Xik ?_; rintro e w ⟨ys, Hs, rfl, hW', hyl, R⟩; have HM := Loc.outY [_, _, _] (Loc.merge (Loc.inY [_, _, _] HL) R); clear R HL hW; have HL := HM; clear HM; simp only [qm, qn] at HL; refine X23 ?_; clear hK K; go_upto_region 13 with fail; refine Xv ?_; refine Xil ?_; refine X5 ?_; refine Xim ?_; refine X5 ?_; refine Xin ?_; refine X5 ?_; refine Xio ?_; refine X57 ?_; intro K hK; refine Xip ?_; refine X5n ?_; clear hK K; intro w HL; refine X13 ?_; refine xab rfl _ (xaf xmr _ rfl _ rfl) ?_; refine X5 ?_
        refine xab rfl _ (xau ag24 HL _ rfl _ _ rfl _ _ _ (.head _) (Brv.g_key _) (D32.cl _)) ?_; refine X5 ?_; refine Xiq ?_; refine X2a ?_; refine X5o ?_; intro K hK; refine Xir ?_; refine X5x ?_; clear hK K; intro w HL; refine X1l ?_; refine X9a ?_; clear HL; intro w HL; go_wp2_with fail; refine Xif ?_; refine ⟨tagL b.key b.val, un, rest1, bs, ys, Hs, rfl, HT, by simp, hW'.mono (by omega), hyl, HL.drop _ (sA [_, _, _] _), ?_⟩; have hq := HQ.out
        cases un with
        | true => rw [if_pos ⟨HOP.out, rfl⟩] at hq; exact .inl ⟨rfl, hq⟩
        | false => rw [if_neg (by rintro ⟨_, h⟩; cases h)] at hq; exact .inr ⟨rfl, hq⟩
      · have k5 : decide ((lo : Int) < (hi : Int)) = false := by simp; omega
        rw [if_neg (fun e => hop e.1)] at hq; have HQ := hZ hq; clear hq hop; go_enter Tryz.func109, Tryz.ntmps109; go_upto_region 0 with fail; refine Xhz ?_; clear HL; intro g10 g12 w HL; go_upto_region 1 with fail; refine Xia ?_; intro w HL; go_upto_region 3 with fail; refine Xic ?_; clear HL; intro g14 w HL; go_upto_region 4 with fail; refine Xid ?_; refine xaw sc42 rfl _ _ rfl HL 3 gr 0 199 _ (rdrC ⟨cutA rest.A rest.c 1 97, rest.n - 1, rest.c - 1⟩ tagE ⟨some ⟨gw, 0, none⟩, n, n⟩) (Sv.v ⟨cutA rest.A rest.c 1 97, rest.n - 1, rest.c - 1⟩) rfl rfl rfl rfl (by rw [xd5]; omega) (xev _ _ _ _) ?_; refine Xie ?_; clear HL; intro w HL HT; generalize (⟨cutA rest.A rest.c 1 97, rest.n - 1, rest.c - 1⟩ : Sv) = rest1 at HL HT; go_upto_region 5 with fail; refine X1b ?_; refine Xij ?_; refine X1c ?_; go_upto_region 6 with fail; refine Xfm ?_; go_upto_region 7 with fail; refine Xii ?_
        go_upto_region 9 with fail; refine Xhd ?_; go_upto_region 11 with fail; refine Xv ?_; refine Xgw ?_; refine X1c ?_; go_upto_region 12 with fail; refine X14 ?_; refine Xfo ?_; refine X17 ?_; refine Xam ?_; intro K hK; refine xad cf167 rfl _ rfl ?_; refine X1z ?_; refine Xik ?_; rintro e w ⟨ys, Hs, rfl, hW', hyl, R⟩; have HM := Loc.outY [_, _, _] (Loc.merge (Loc.inY [_, _, _] HL) R); clear R HL hW; have HL := HM; clear HM; simp only [qm, qn] at HL; refine X23 ?_; clear hK K; go_upto_region 13 with fail; refine Xv ?_; refine Xil ?_; refine X5 ?_; refine Xim ?_; refine X5 ?_; refine Xin ?_; refine X5 ?_; refine Xio ?_; refine X57 ?_; intro K hK; refine Xip ?_; refine X5n ?_; clear hK K; intro w HL; refine X13 ?_; refine no_implicit_lambda% (X2i ?_); refine no_implicit_lambda% (X2e ?_); refine X1l ?_; refine X9a ?_; clear HL; intro w HL; go_wp2_with fail; refine Xif ?_
        exact ⟨tagL b.key b.val, false, rest1, bs, ys, Hs, rfl, HT, by simp, hW'.mono (by omega), hyl, HL.drop _ (sA [_, _, _] _), .inr ⟨rfl, HQ.out⟩⟩
    have k11 : ((b.kind : Int) == 1) = false := nB (by omega); have h2 := xg1 hcl h0 h3 h1
    have hfl : ¬ lo < hi ∨ 256 ≤ d := by
      rcases hflat with h | h | h
      · rw [hcl] at h; cases h
      · exact absurd h2 h
      · exact h
    have hq := hq4 hcl h2 hfl; clear hq0 hq1 hq2 hq3 hq4 hcl hflat h0 h3 h1 h2; have HQ := hZ hq; clear hq; by_cases hop : lo < hi
    · have hd2 : d = 256 := by omega
      have k5 : decide ((lo : Int) < (hi : Int)) = true := by simp; omega
      have k14 : decide ((256 : Int) ≤ (d : Int)) = true := by simp; omega
      clear hfl hop hd2; go_enter Tryz.func109, Tryz.ntmps109; go_upto_region 0 with fail; refine Xhz ?_; clear HL; intro g10 g12 w HL; go_upto_region 1 with fail; refine Xia ?_; intro w HL; go_upto_region 3 with fail; refine Xic ?_; clear HL; intro g14 w HL; go_upto_region 4 with fail; refine Xid ?_; refine xaw sc42 rfl _ _ rfl HL 3 gr 0 199 _ (rdrC ⟨cutA rest.A rest.c 1 97, rest.n - 1, rest.c - 1⟩ tagE ⟨some ⟨gw, 0, none⟩, n, n⟩) (Sv.v ⟨cutA rest.A rest.c 1 97, rest.n - 1, rest.c - 1⟩) rfl rfl rfl rfl (by rw [xd5]; omega) (xev _ _ _ _) ?_; refine Xie ?_; clear HL; intro w HL HT; generalize (⟨cutA rest.A rest.c 1 97, rest.n - 1, rest.c - 1⟩ : Sv) = rest1 at HL HT; go_upto_region 5 with fail; refine X1b ?_; refine Xig ?_; refine X1c ?_; go_upto_region 6 with fail; refine Xfm ?_; go_upto_region 7 with fail; refine Xii ?_; go_upto_region 9 with fail; refine Xhd ?_
      go_upto_region 11 with fail; refine Xv ?_; refine Xgz ?_; go_upto_region 14 with fail; refine Xbq ?_; refine X1o ?_; refine Xis ?_; refine X2c ?_; go_upto_region 15 with fail; refine Xit ?_; refine X4k ?_; clear HL; intro w HL; go_wp2_with fail; refine Xif ?_; exact ⟨D32.z, false, rest1, bs, xs, Gs, rfl, HT, by simp, hW.mono (by omega), HXL.out, HL.drop _ (sA [_, _, _] _), .inr ⟨rfl, HQ.out⟩⟩
    · have k5 : decide ((lo : Int) < (hi : Int)) = false := by simp; omega
      clear hfl hop; go_enter Tryz.func109, Tryz.ntmps109; go_upto_region 0 with fail; refine Xhz ?_; clear HL; intro g10 g12 w HL; go_upto_region 1 with fail; refine Xia ?_; intro w HL; go_upto_region 3 with fail; refine Xic ?_; clear HL; intro g14 w HL; go_upto_region 4 with fail; refine Xid ?_; refine xaw sc42 rfl _ _ rfl HL 3 gr 0 199 _ (rdrC ⟨cutA rest.A rest.c 1 97, rest.n - 1, rest.c - 1⟩ tagE ⟨some ⟨gw, 0, none⟩, n, n⟩) (Sv.v ⟨cutA rest.A rest.c 1 97, rest.n - 1, rest.c - 1⟩) rfl rfl rfl rfl (by rw [xd5]; omega) (xev _ _ _ _) ?_; refine Xie ?_; clear HL; intro w HL HT; generalize (⟨cutA rest.A rest.c 1 97, rest.n - 1, rest.c - 1⟩ : Sv) = rest1 at HL HT; go_upto_region 5 with fail; refine X1b ?_; refine Xij ?_; refine X1c ?_; go_upto_region 6 with fail; refine Xfm ?_; go_upto_region 7 with fail; refine Xii ?_; go_upto_region 9 with fail; refine Xhd ?_
      go_upto_region 11 with fail; refine Xv ?_; refine Xgz ?_; go_upto_region 14 with fail; refine Xbx ?_; refine X2g ?_; refine X2b ?_; go_upto_region 15 with fail; refine Xit ?_; refine X4k ?_; clear HL; intro w HL; go_wp2_with fail; refine Xif ?_; exact ⟨D32.z, false, rest1, bs, xs, Gs, rfl, HT, by simp, hW.mono (by omega), HXL.out, HL.drop _ (sA [_, _, _] _), .inr ⟨rfl, HQ.out⟩⟩
theorem plM_deep (ks : List D32) (N : Nat) (b : Brv) (bs : List Brv) (lo hi : Nat) (top : D32) (d mid : Nat) (hc : xa9 b = true) (hk : b.kind = 2) (hlt : lo < hi) (hd : d < 256) (hm : lo + xf6 ((ks.drop lo).take (hi - lo)) d = mid) :
    (plM ks N bs lo mid top (d + 1) = none → plM ks (N + 1) (b :: bs) lo hi top d = none) ∧
    (∀ l r1, plM ks N bs lo mid top (d + 1) = some (l, r1) → plM ks N r1 mid hi (xdm top d) (d + 1) = none → plM ks (N + 1) (b :: bs) lo hi top d = none) ∧
    (∀ l r1 r r2, plM ks N bs lo mid top (d + 1) = some (l, r1) → plM ks N r1 mid hi (xdm top d) (d + 1) = some (r, r2) → plM ks (N + 1) (b :: bs) lo hi top d = some (tagI l r, r2)) := by
  have e : plM ks (N + 1) (b :: bs) lo hi top d = match plM ks N bs lo mid top (d + 1) with
        | none => none
        | some (l, r1) => match plM ks N r1 mid hi (xdm top d) (d + 1) with
          | none => none
          | some (r, r2) => some (tagI l r, r2) := by
    rw [plM, if_neg (by rw [hc]; decide), if_neg (by omega), if_neg (by omega), if_neg (by omega), if_neg (by omega), hm]
  refine ⟨fun h => ?_, fun l r1 h h2 => ?_, fun l r1 r r2 h h2 => ?_⟩
  · rw [e, h]
  · rw [e, h]; simp only [h2]
  · rw [e, h]; simp only [h2]
theorem xrh (W0 : World) (D : Nat → Prop) (A : Option Addr) (n c : Nat) (ks : List D32) (hKY : KyD D W0 A n c ks) (gr gw : Nat) (hn : n ≤ 1000) (N : Nat) (d : Nat) (X : List (Nat × Nat × List Value)) (rest : Sv) (b : Brv) (bs : List Brv) (xs : List Prv) (Gs : List (Nat × Nat × List Value)) (M lo hi : Nat) (top : D32) (w : World) (hd : d ≤ 256) (hB : BrD D W0 rest (b :: bs)) (hW : Wys M Gs xs) (hxl : xs.length = n) (hlh : lo ≤ hi ∧ hi ≤ n) (hM : M + 2 * (b :: bs).length ≤ 200000)
    (H : Loc W0 D (RX gr gw rest ⟨some ⟨gw, 0, none⟩, n, n⟩ xs Gs X) w) (ih : ∀ (d : Nat) (X : List (Nat × Nat × List Value)) (rest : Sv) (bs : List Brv) (xs : List Prv) (Gs : List (Nat × Nat × List Value)) (M lo hi : Nat) (top : D32) (w : World),
    d + N = 256 → BrD D W0 rest bs → Wys M Gs xs → xs.length = n → lo ≤ hi ∧ hi ≤ n → M + 2 * bs.length ≤ 200000 → Loc W0 D (RX gr gw rest ⟨some ⟨gw, 0, none⟩, n, n⟩ xs Gs X) w →
    Calls Tryz.prog 109 #[.pointer (some ⟨gr, 0, none⟩), .slice A n c, .int .i64 (lo : Int), .int .i64 (hi : Int), top.a, .int .i64 (d : Int)] w (PlO W0 D X gr gw ⟨some ⟨gw, 0, none⟩, n, n⟩ n M bs.length (plM ks N bs lo hi top d))) (hd1 : d + (N + 1) = 256) (hcl : xa9 b = true) (hk2 : b.kind = 2) (hop : lo < hi) :
    Calls Tryz.prog 109 #[.pointer (some ⟨gr, 0, none⟩), .slice A n c, .int .i64 (lo : Int), .int .i64 (hi : Int), top.a, .int .i64 (d : Int)] w (PlO W0 D X gr gw ⟨some ⟨gw, 0, none⟩, n, n⟩ n M (b :: bs).length (plM ks (N + 1) (b :: bs) lo hi top d)) := by
  have HXL := hZ hxl; have hr0 : 1 ≤ rest.n := by have := hB.s.len; simp only [qr] at this; omega
  have k1 : ((rest.n : Int) == 0) = false := nB (by omega); obtain ⟨ad, hA, _⟩ := hB.s.at_ 0 (by simp); have HSV : Hid (rest.v = .slice (some ad) rest.n rest.c) := hZ (by unfold Sv.v; rw [hA])
  have hbrd : ∀ (L : List (Nat × Nat × List Value)) (W : World), Loc W0 D L W → Rd W (some (ad.add (0 * 97))) b.cells := by
    intro L W hW; obtain ⟨ad', e', h'⟩ := (hB.at hW).at_ 0 (by simp); rw [hA] at e'; cases e'; exact h'
  have CC := fun u => hZ (xix b u)
  clear hxl hA; have HL := H; clear H; rw [hcl] at CC; obtain ⟨mid, hmid⟩ : ∃ mid, lo + xf6 ((ks.drop lo).take (hi - lo)) d = mid := ⟨_, rfl⟩; obtain ⟨hq0, hq1, hq2⟩ := plM_deep ks N b bs lo hi top d mid hcl hk2 hop (by omega) hmid; generalize plM ks (N + 1) (b :: bs) lo hi top d = q at hq0 hq1 hq2 ⊢
  have hmh : lo ≤ mid ∧ mid ≤ hi := by
    have h1 := partN_le ((ks.drop lo).take (hi - lo)) d; rw [List.length_take, List.length_drop] at h1; omega
  have HMID : Hid ((lo : Int) + ((xf6 ((ks.drop lo).take (hi - lo)) d : Nat) : Int) = (mid : Int)) := hZ (by omega); have k5 : decide ((lo : Int) < (hi : Int)) = true := by simp; omega
  have k14 : decide ((256 : Int) ≤ (d : Int)) = false := by simp; omega
  have k7 : ((b.kind : Int) == 0) = false := nB (by omega); have k9 : ((b.kind : Int) == 3) = false := nB (by omega); have k11 : ((b.kind : Int) == 1) = false := nB (by omega); have HD1 : Hid ((d : Int) + 1 = ((d + 1 : Nat) : Int)) := hZ (by omega); have hnc := hKY.s.cap; simp only [qr] at hM; have HQ0 := hZ hq0; have HQ1 := hZ hq1; have HQ2 := hZ hq2; clear hmid hop hk2 hcl hq0 hq1 hq2; go_enter Tryz.func109, Tryz.ntmps109; go_upto_region 0 with fail; refine Xhz ?_; clear HL; intro g10 g12 w HL; go_upto_region 1 with fail; refine Xia ?_; intro w HL; go_upto_region 3 with fail; refine Xic ?_; clear HL; intro g14 w HL; go_upto_region 4 with fail; refine Xid ?_
  refine xaw sc42 rfl _ _ rfl HL 3 gr 0 199 _ (rdrC ⟨cutA rest.A rest.c 1 97, rest.n - 1, rest.c - 1⟩ tagE ⟨some ⟨gw, 0, none⟩, n, n⟩) (Sv.v ⟨cutA rest.A rest.c 1 97, rest.n - 1, rest.c - 1⟩) rfl rfl rfl rfl (by rw [xd5]; omega) (xev _ _ _ _) ?_; refine Xie ?_; clear HL; intro w HL HT; generalize (⟨cutA rest.A rest.c 1 97, rest.n - 1, rest.c - 1⟩ : Sv) = rest1 at HL HT; go_upto_region 5 with fail; refine X1b ?_; refine Xig ?_; refine X1c ?_; go_upto_region 6 with fail; refine Xfm ?_; go_upto_region 7 with fail; refine Xii ?_; go_upto_region 9 with fail; refine Xhd ?_; go_upto_region 11 with fail; refine Xv ?_; refine Xgz ?_; go_upto_region 14 with fail; refine Xbq ?_; refine X1o ?_; refine Xis ?_; refine X2c ?_; go_upto_region 16 with fail; refine X6f ?_; refine X13 ?_
  refine xaa rfl _ (xej sl26 (.tmp 99) _ _ rfl A n c lo hi .i64 .i64 rfl rfl rfl (by omega) (by omega)) ?_; refine X4a ?_; intro K hK; refine xad cf139 rfl _ rfl ?_; refine X1z ?_; (with_reducible refine (xrg (cutA A c lo 32) (hi - lo) (c - lo) ((ks.drop lo).take (hi - lo)) d (by omega) _ ((hKY.at HL).cut lo hi (by omega) (by omega)) (by omega)).mono ?_); refine X5x ?_; clear hK K; intro w HL; refine xaa rfl _ (xbr _ _ rfl _ _ _ rfl rfl HMID.out (by omega)) ?_; refine X1c ?_; have HIN := Loc.inX [(g14, 124, b.cells), (g12, 23, D32.z.c), (g10, 24, top.c)] HL; go_upto_region 17 with fail; refine X6f ?_; refine X13 ?_; refine Xbz ?_; refine X17 ?_; refine Xiu ?_; refine X57 ?_; intro K hK; refine xad cf109 rfl _ rfl ?_; refine X1z ?_
  (with_reducible refine (ih (d + 1) _ rest1 bs xs Gs M lo mid top _ (by omega) HT hW HXL.out ⟨hmh.1, by omega⟩ (by omega) HIN).mono ?_); rintro e w ⟨l, ok1, rest2, bs2, xs2, Gs2, rfl, hB2, hR2, hW2, hxl2, HL2, hr1⟩; have HM := Loc.outX [(g14, 124, b.cells), (g12, 23, D32.z.c), (g10, 24, top.c)] HL2; clear HL HL2 hW HIN; have HL := HM; clear HM; simp only [qm, qn] at HL; refine X5c ?_; clear hK K; refine xah zr23 rfl rfl HL ?_; clear HL; intro g17 w HL; refine X93 ?_; clear HL; intro w HL; have HX2 := hZ hxl2; clear hxl2; rcases hr1 with ⟨rfl, hr1⟩ | ⟨rfl, hr1⟩
  · have HR1 := hZ hr1
    clear hr1; go_upto_region 18 with fail; refine Xbq ?_; refine X22 ?_; go_upto_region 20 with fail; refine X9d ?_; refine X4a ?_; intro K hK; refine xad cf168 rfl _ rfl ?_; refine X1z ?_; (with_reducible refine (flip_d _ top (d : Int) (by omega)).mono ?_); refine X4i ?_; clear hK K; intro w HL; refine xah zr24 rfl rfl HL ?_; clear HL; intro g19 w HL; refine Xiv ?_; clear HL; intro w HL; generalize hfl : xlv (d : Int) = fe; clear hfl; have HIN2 := Loc.inX [(g19, 24, (xdm top (d : Int)).c), (g17, 23, l.c), (g14, 124, b.cells), (g12, 23, D32.z.c), (g10, 24, top.c)] HL; go_upto_region 21 with fail; refine X6f ?_; refine X13 ?_; refine X6i ?_; refine X17 ?_; refine Xiu ?_; refine X57 ?_; intro K hK; refine xad cf109 rfl _ rfl ?_; refine X1z ?_
    (with_reducible refine (ih (d + 1) _ rest2 bs2 xs2 Gs2 (M + 2 * (bs.length - bs2.length)) mid hi (xdm top d) _ (by omega) hB2 hW2 HX2.out ⟨hmh.2, by omega⟩ (by omega) HIN2).mono ?_); rintro e w ⟨r, ok2, rest3, bs3, xs3, Gs3, rfl, hB3, hR3, hW3, hxl3, HL3, hr2⟩; have HM := Loc.outX [(g19, 24, (xdm top (d : Int)).c), (g17, 23, l.c), (g14, 124, b.cells), (g12, 23, D32.z.c), (g10, 24, top.c)] HL3; clear HL HL3 hW2 HIN2; have HL := HM; clear HM; simp only [qm, qn] at HL; refine X5c ?_; clear hK K; refine xah zr23 rfl rfl HL ?_; clear HL; intro g21 w HL; refine X93 ?_; clear HL; intro w HL; have HX3 := hZ hxl3; clear hxl3; go_upto_region 22 with fail; refine X14 ?_; refine X98 ?_; refine X17 ?_; refine Xam ?_; intro K hK; refine xad cf169 rfl _ rfl ?_; refine X1z ?_
    (with_reducible refine (xl6 gr gw rest3 n xs3 Gs3 (M + 2 * (bs.length - bs2.length) + 2 * (bs2.length - bs3.length)) r lo mid _ hW3 HX3.out ⟨hmh.1, by omega⟩ (by omega) (by omega) (Loc.lend (Loc.inY [_, _, _, _, _, _] HL))).mono ?_); rintro e w ⟨xs4, Gs4, rfl, hW4, hxl4, R⟩; have HM := Loc.outY [_, _, _, _, _, _] (Loc.merge (Loc.inY [_, _, _, _, _, _] HL) R); clear R HL hW3; have HL := HM; clear HM; simp only [qm, qn] at HL; refine X23 ?_; clear hK K; have HX4 := hZ hxl4; clear hxl4; go_upto_region 23 with fail; refine X14 ?_; refine Xdv ?_; refine X17 ?_; refine Xam ?_; intro K hK; refine xad cf169 rfl _ rfl ?_; refine X1z ?_; (with_reducible refine (xl6 gr gw rest3 n xs4 Gs4 (M + 2 * (bs.length - bs2.length) + 2 * (bs2.length - bs3.length) + 1) l mid hi _ hW4 HX4.out ⟨hmh.2, by omega⟩ (by omega) (by omega) (Loc.lend (Loc.inY [_, _, _, _, _, _] HL))).mono ?_)
    rintro e w ⟨xs5, Gs5, rfl, hW5, hxl5, R⟩; have HM := Loc.outY [_, _, _, _, _, _] (Loc.merge (Loc.inY [_, _, _, _, _, _] HL) R); clear R HL hW4; have HL := HM; clear HM; simp only [qm, qn] at HL; refine X23 ?_; clear hK K; have HX5 := hZ hxl5; clear hxl5; go_upto_region 24 with fail; refine Xv ?_; refine Xdv ?_; refine X5 ?_; refine X98 ?_; refine X57 ?_; intro K hK; refine X6n ?_; refine Xiw ?_; refine X5n ?_; clear hK K; intro w HL; refine xa6 ag23 rfl _ _ rfl HL 4 g12 23 D32.z.c (tagI l r).c rfl rfl rfl (D32.cl _) (D32.cl _) (D32.c1 _) ?_; refine X2u ?_; clear HL; intro w HL; go_wp2_with fail; refine Xf ?_; refine bodyPost_ret (xak rfl ag23 _ _ g12 23 _ rfl (HL.blk (.tail _ (.tail _ (.tail _ (.tail _ (.head _)))))) (D32.cl _)) rfl ?_
    refine ⟨tagI l r, ok2, rest3, bs3, xs5, Gs5, rfl, hB3, by (try simp only [qr]); omega, hW5.mono (by (try simp only [qr]); omega), HX5.out, HL.drop _ (sA [_, _, _, _, _, _] _), ?_⟩; rcases hr2 with ⟨rfl, hr2⟩ | ⟨rfl, hr2⟩
    · exact .inl ⟨rfl, HQ2.out _ _ _ _ HR1.out hr2⟩
    · exact .inr ⟨rfl, HQ1.out _ _ HR1.out hr2⟩
  · have HR1 := hZ hr1
    clear hr1; go_upto_region 18 with fail; refine Xbx ?_; refine X22 ?_; go_upto_region 19 with fail; refine Xi2 ?_; refine Xix ?_; refine X4k ?_; clear HL; intro w HL; go_wp2_with fail; refine Xf ?_; refine bodyPost_ret (xak rfl ag23 _ _ g12 23 _ rfl (HL.blk (.tail _ (.tail _ (.head _)))) (D32.cl _)) rfl ?_; exact ⟨D32.z, false, rest2, bs2, xs2, Gs2, rfl, hB2, by (try simp only [qr]); omega, hW2.mono (by (try simp only [qr]); omega), HX2.out, HL.drop _ (sA [_, _, _, _] _), .inr ⟨rfl, HQ0.out HR1.out⟩⟩
theorem xuq (W0 : World) (D : Nat → Prop) (A : Option Addr) (n c : Nat) (ks : List D32) (hKY : KyD D W0 A n c ks) (gr gw : Nat) (hn : n ≤ 1000) (N : Nat) : ∀ (d : Nat) (X : List (Nat × Nat × List Value)) (rest : Sv) (bs : List Brv) (xs : List Prv) (Gs : List (Nat × Nat × List Value)) (M lo hi : Nat) (top : D32) (w : World),
    d + N = 256 → BrD D W0 rest bs → Wys M Gs xs → xs.length = n → lo ≤ hi ∧ hi ≤ n → M + 2 * bs.length ≤ 200000 → Loc W0 D (RX gr gw rest ⟨some ⟨gw, 0, none⟩, n, n⟩ xs Gs X) w →
    Calls Tryz.prog 109 #[.pointer (some ⟨gr, 0, none⟩), .slice A n c, .int .i64 (lo : Int), .int .i64 (hi : Int), top.a, .int .i64 (d : Int)] w (PlO W0 D X gr gw ⟨some ⟨gw, 0, none⟩, n, n⟩ n M bs.length (plM ks N bs lo hi top d)) := by
  induction N with
  | zero =>
    intro d X rest bs xs Gs M lo hi top w hdN hB hW hxl hlh hM H
    cases bs with
    | nil => exact xkw W0 D A n c ks hKY gr gw hn 0 d X rest xs Gs M lo hi top w hB hW hxl H
    | cons b bs => exact xkx W0 D A n c ks hKY gr gw hn 0 d X rest b bs xs Gs M lo hi top w (by omega) hB hW hxl hlh hM H (.inr (.inr (.inr (by omega))))
  | succ N ih =>
    intro d X rest bs xs Gs M lo hi top w hdN hB hW hxl hlh hM H
    cases bs with
    | nil => exact xkw W0 D A n c ks hKY gr gw hn (N + 1) d X rest xs Gs M lo hi top w hB hW hxl H
    | cons b bs =>
      by_cases hfl : xa9 b = false ∨ b.kind ≠ 2 ∨ ¬ lo < hi ∨ 256 ≤ d
      · exact xkx W0 D A n c ks hKY gr gw hn (N + 1) d X rest b bs xs Gs M lo hi top w (by omega) hB hW hxl hlh hM H hfl
      · have h1 : xa9 b = true := by
          cases h : xa9 b with
          | true => rfl
          | false => exact absurd (.inl h) hfl
        have h2 : b.kind = 2 := by
          by_cases h : b.kind = 2
          · exact h
          · exact absurd (.inr (.inl h)) hfl
        have h3 : lo < hi := by
          by_cases h : lo < hi
          · exact h
          · exact absurd (.inr (.inr (.inl h))) hfl
        exact xrh W0 D A n c ks hKY gr gw hn N d X rest b bs xs Gs M lo hi top w (by omega) hB hW hxl hlh hM H ih hdN h1 h2 h3
end
theorem madeRows {α : Type} (f : α → List Value) (x : α) (z : Nat) (hz : ∀ y, (f y).length = z) (h0 : 0 < z) (n : Nat) : madeCells (f x).toArray (n * z) = ((List.replicate n x).flatMap f).toArray := by
  apply Array.ext'; apply List.ext_getElem?; intro j; by_cases h : j < n * z
  · have hj1 : j / z < n := Nat.div_lt_of_lt_mul (by rw [Nat.mul_comm]; exact h)
    have hj2 : j % z < z := Nat.mod_lt _ h0; have e := xj0 hz (List.replicate n x) ([] : List Value) (j / z) (j % z) (by rw [List.length_replicate]; exact hj1) hj2; rw [List.append_nil, Nat.div_add_mod', List.getElem_replicate] at e; rw [e]; have h3 : j % z < (f x).length := by rw [hz]; exact hj2
    have e2 : (f x)[j % z]? = some (f x)[j % z] := List.getElem?_eq_getElem h3; simp [madeCells, h, hz, h3, e2]
  · have h1 : (madeCells (f x).toArray (n * z)).toList[j]? = none := by
      rw [List.getElem?_eq_none]; rw [Array.length_toList, size_madeCells]; omega
    have h2 : ((List.replicate n x).flatMap f).toArray.toList[j]? = none := by
      rw [List.getElem?_eq_none]; show ((List.replicate n x).flatMap f).length ≤ j; rw [xbx hz, List.length_replicate]; omega
    rw [h1, h2]
section
variable {w0 w : World} {D : Nat → Prop} {L : List (Nat × Nat × List Value)} {o : Oper} {a : Act} {K : Act → World → Prop} {Q : Exit → Act → World → Prop}
theorem xpy (l c : Operand) (ho : o.op = Op.makeSlice 128 l c) (H : Loc w0 D L w) (n : Nat) (hl : a.eval l = .int .i64 n) (hc : a.eval c = .int .i64 n) (hn : n ≤ 1000000)
    (h : ∀ g w', Loc w0 D ((g, 34, (List.replicate n Prv.z).flatMap Prv.cells) :: L) w' → K (a.put o.dst (.slice (some ⟨g, 0, none⟩) n n)) w') : o.wp Tryz.prog a w K Q := by
  obtain ⟨i, hi, hz, hs, hb⟩ := info_parts el34.i; have hr := run_make (P := Tryz.prog) w 128 34 i _ Tryz.underlying128 hi hz .i64 .i64 n n (by omega) (by omega) (by rw [hb]; omega) (by omega); rw [hs] at hr; simp only [Int.toNat_natCast] at hr; have e : madeCells (Value.agg Prv.z.cells.toArray).cells (n * 130) = ((List.replicate n Prv.z).flatMap Prv.cells).toArray := madeRows Prv.cells Prv.z 130 Prv.len (by decide) n; rw [e] at hr; unfold Oper.wp execOp; simp only [ho, hl, hc, Sem.run_bind, hr, Result.andThen_ok]; exact h _ _ (H.new 34 _)
end
theorem wys_zero (n : Nat) : Wys 0 [] (List.replicate n Prv.z) := by
  induction n with
  | zero => exact .nil
  | succ n ih =>
    rw [List.replicate_succ]; exact Wys.cons (G := []) (x := Prv.z) (ds := []) (Gw.nil 23 32) (Nat.le_refl _) ih
section
variable {w w' : World}
theorem xpz (w : World) : Calls Tryz.prog 110 #[Sv.v Sv.nil] w fun e w' => e = .returned (.tuple #[]) ∧ w = w' := by
  have HL := Loc.start w; go_enter Tryz.func110, Tryz.ntmps110; go_upto_region 0 with fail; refine X14 ?_; refine xaa rfl _ (xa8 Tryz.underlying29 _ rfl none 0 0 rfl) ?_; refine X5 ?_; refine xaa rfl _ (xbv _ _ rfl _ _ (-1) rfl rfl rfl (by omega)) ?_; refine X1j ?_; go_wp2_with fail; refine wp_loop_rounds 1 ?_; rw [rounds_succ]; go_upto_region 1 with fail; refine X1b ?_; refine xaa rfl _ (xcj (b := false) _ _ rfl _ _ rfl rfl rfl) ?_; refine X22 ?_; go_wp2_with fail
  go_end0
  exact ⟨rfl, rfl⟩
theorem xsn {W0 : World} {D : Nat → Prop} {L0 L1 G : List (Nat × Nat × List Value)} (sv : Sv) (ds : List D32) (w : World) (hG : Gw 23 32 G sv ds.length (ds.flatMap D32.c)) (hl : ds.length ≤ 140737488355328) (H : Loc W0 D (L0 ++ (G ++ L1)) w) :
    Calls Tryz.prog 110 #[sv.v] w fun e w' => e = .returned (.tuple #[]) ∧ ∃ G', Gw 23 32 G' sv ds.length (ds.reverse.flatMap D32.c) ∧ Loc W0 D (L0 ++ (G' ++ L1)) w' := by
  obtain ⟨hxl, ⟨rfl, rfl, h0⟩ | ⟨g, cap, tl, rfl, rfl, h1, h2, h3⟩⟩ := hG
  · have hd : ds = [] := List.eq_nil_of_length_eq_zero h0
    subst hd; refine (xpz w).mono ?_; rintro e w' ⟨rfl, rfl⟩; exact ⟨rfl, [], Gw.nil 23 32, H⟩
  · refine (xnk g cap ds tl w (H.blk (by simp)) h1 hl).mono ?_
    rintro e w' ⟨rfl, hb, hf⟩; refine ⟨rfl, [(g, 23, ds.reverse.flatMap D32.c ++ tl)], ⟨by rw [xbx D32.cl, List.length_reverse], .inr ⟨g, cap, tl, rfl, rfl, h1, h2, ?_⟩⟩, ?_⟩
    · rw [List.length_append, xbx D32.cl, List.length_reverse]
      rw [List.length_append, xbx D32.cl] at h3; exact h3
    · obtain ⟨ho, _, hnD, hne⟩ := Loc.out (x := (g, 23, ds.flatMap D32.c ++ tl)) (L0 := L0) (L1 := L1) H
      have h4 := ho.frame (T := (· = g)) hf (fun k hk => hk ▸ hnD) (fun x hx => hne x hx); refine ⟨h4.fr, ?_, xqz h4.nd hne, h4.old⟩; intro x hx; rcases List.mem_append.1 hx with hx | hx
      · exact h4.own x (List.mem_append.2 (.inl hx))
      · rcases List.mem_cons.1 hx with rfl | hx
        · exact ⟨hnD, hb⟩
        · exact h4.own x (List.mem_append.2 (.inr hx))
end
end Go.Proofs.YtkjjdgnkelchfaaGreat
