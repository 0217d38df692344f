import Derived.Test.YtkjjdgnkelchfaaGreatPTU21
set_option linter.unusedSimpArgs false
set_option linter.unusedVariables false
set_option maxRecDepth 100000
set_option maxHeartbeats 16000000
namespace Go.Proofs.YtkjjdgnkelchfaaGreat
open Go Go.RowKit
def TtS (root key fr til : D32) (w0 : World) (value other sketch stretch : Sv) (A : Option Addr) (n c : Nat) (lv lo lk lt : List UInt8) (ks : List D32) (g10 g11 g17 g18 B : Nat) (v : Value) (wx : World) : Prop :=
  ∃ (w1 : World) (D1 : Nat → Prop) (G : List (Nat × Nat × List Value)) (sv : Sv) (xs : List Clm), v = sv.v ∧ xs.length ≤ B ∧ ClL root key w1 D1 G sv xs ∧ Kp w1 D1 w0 value other sketch stretch A n c lv lo lk lt ks ∧
    Loc w1 D1 ((g18, 24, til.c) :: (g17, 24, fr.c) :: (g11, 24, key.c) :: (g10, 23, root.c) :: (G ++ [])) wx
theorem ClL.none (root key : D32) (w1 : World) (D : Nat → Prop) : ClL root key w1 D [] Sv.nil [] := ⟨Gw.nil 39 3, fun x hx => by cases hx⟩
section
variable {w w' : World}
theorem xnw (root key fr til : D32) (value other single sketch stretch : Sv) (A : Option Addr) (n c : Nat) (lv lo ls lk lt : List UInt8) (ks : List D32) (w : World) (hv : Tx w value.A value.n value.c lv) (ho : Tx w other.A other.n other.c lo) (hs : Tx w single.A single.n single.c ls)
    (hm : Tx w sketch.A sketch.n sketch.c lk) (ht : Tx w stretch.A stretch.n stretch.c lt) (hk : KyS w A n c ks) (hsn : single.n ≤ 140737488351232) :
    Calls Tryz.prog 3 #[root.a, key.a, value.v, other.v, single.v, .slice A n c, sketch.v, fr.a, til.a, stretch.v] w fun e w' => e = .returned (.bool true) ∧ Below w.heap.size w w' := by
  have HKN := hZ hk.len; have KP : Hid (Kp w (Old w) w value other sketch stretch A n c lv lo lk lt ks) := hZ ⟨TxD.old hv, TxD.old ho, TxD.old hm, TxD.old ht, KyD.old hk, BelD.old w⟩; have SG : Hid (TxD w (Old w) single ls) := hZ (TxD.old hs); clear hv ho hs hm ht hk; have HL := Loc.start w; obtain ⟨w0, rfl⟩ := eW w; go_enter Tryz.func3, Tryz.ntmps3; go_upto_region 0 with fail; refine Xhx ?_; clear HL; intro g10 w HL; refine xc2 rfl _ rfl HL _ rfl ?_; clear HL; intro g11 w HL; refine X5 ?_; refine xc2 rfl _ rfl HL _ rfl ?_; clear HL; intro g17 w HL; refine X5 ?_; refine xc2 rfl _ rfl HL _ rfl ?_; clear HL; intro g18 w HL; refine X1c ?_; by_cases hb1 : 6000 < sketch.n
  · have k5 : decide ((6000 : Int) < (sketch.n : Int)) = true := by simp; omega
    go_upto_region 1 with fail; refine Xmv ?_; intro w HL; refine Xbp ?_; refine X1o ?_; refine Xmw ?_; refine xab rfl _ (xa4 (b := true) _ _ rfl _ _ rfl rfl k5) ?_; refine X27 ?_; refine X2g ?_; refine no_implicit_lambda% (X2e ?_); refine X1l ?_; refine X59 ?_; go_upto_region 2 with fail; refine Xmu ?_; intro K hK; refine X6w ?_; clear hK K; intro w HL; go_wp2_with fail; go_ret; exact ⟨rfl, KP.out.b.at HL⟩
  have k5 : decide ((6000 : Int) < (sketch.n : Int)) = false := by simp; omega
  by_cases hb2 : 6000 < stretch.n
  · have k10 : decide ((6000 : Int) < (stretch.n : Int)) = true := by simp; omega
    go_upto_region 1 with fail; refine Xmv ?_; intro w HL; refine Xbp ?_; refine X1o ?_; refine Xmw ?_; refine Xmx ?_; refine X72 ?_; refine Xmw ?_; refine xab rfl _ (xa4 (b := true) _ _ rfl _ _ rfl rfl k10) ?_; refine X27 ?_; refine X59 ?_; go_upto_region 2 with fail; refine Xmu ?_; intro K hK; refine X6w ?_; clear hK K; intro w HL; go_wp2_with fail; go_ret; exact ⟨rfl, KP.out.b.at HL⟩
  have k10 : decide ((6000 : Int) < (stretch.n : Int)) = false := by simp; omega
  by_cases hb3 : 70 < n
  · have k15 : decide ((70 : Int) < (n : Int)) = true := by simp; omega
    go_upto_region 1 with fail; refine Xmv ?_; intro w HL; refine Xbp ?_; refine X1o ?_; refine Xmw ?_; refine Xmx ?_; refine X72 ?_; refine Xmy ?_; refine X72 ?_; refine Xjh ?_; refine X5 ?_; refine xab rfl _ (xa4 (b := true) _ _ rfl _ _ rfl rfl k15) ?_; refine X2c ?_; go_upto_region 2 with fail; refine Xmu ?_; intro K hK; refine X6w ?_; clear hK K; intro w HL; go_wp2_with fail; go_ret; exact ⟨rfl, KP.out.b.at HL⟩
  have k15 : decide ((70 : Int) < (n : Int)) = false := by simp; omega
  go_upto_region 1 with fail; refine Xmv ?_; intro w HL; refine Xbp ?_; refine X1o ?_; refine Xmw ?_; refine Xmx ?_; refine X72 ?_; refine Xmy ?_; refine X72 ?_; refine Xjh ?_; refine X5 ?_; refine xab rfl _ (xa4 (b := false) _ _ rfl _ _ rfl rfl k15) ?_; refine X2c ?_; have hsk : sketch.n ≤ 140737488351232 := by omega
  have hst : stretch.n ≤ 140737488351232 := by omega
  have hnn : n ≤ 140737488351232 := by omega
  have hn70 : n ≤ 70 := by omega
  clear k5 k10 k15 hb1 hb2 hb3; have CL : Hid (ClL root key w0 (Old w0) [] Sv.nil []) := hZ (ClL.none _ _ _ _); go_upto_region 3 with fail; refine X1k ?_; go_upto_region 4 with fail; refine X1y ?_; intro K hK; refine xad cf7 rfl _ rfl ?_; refine X1z ?_; (with_reducible refine (pkdec_sv single ls _ (SG.out.at HL) hsn).mono ?_); rintro e w ⟨x, er, rfl, hb, hx⟩; have HXX := hZ (hx.imp (fun ⟨h1, ds, h2, h3, _⟩ => (⟨h1, ds, SdD.fresh h2 HL h3⟩ : er = 0 ∧ ∃ ds, SdD w (Rest w _) x.sides ds)) (fun h => h.1)); clear hx; replace KP := hZ (KP.out.turn HL hb); replace CL := hZ (CL.out.turn HL hb); replace HL := HL.after hb; clear hb; obtain ⟨w1, rfl⟩ := eW w; generalize Rest w1 _ = D1 at HL KP CL HXX; refine X5c ?_; clear hK K; refine xah zr34 rfl rfl HL ?_; clear HL; intro g22 w HL; refine X5 ?_; refine Xbo ?_; refine X4k ?_; clear HL; intro w HL; clear SG
  obtain ⟨eb, heb⟩ : ∃ eb, (er == 0) = eb := ⟨_, rfl⟩; have HEB := hZ heb; go_upto_region 5 with fail; refine X14 ?_; refine Xmz ?_; refine X22 ?_; clear heb
  go_upto_if 73 with fail
  go_cut [21] from 49 (fun v wx => TtS root key fr til w0 value other sketch stretch A n c lv lo lk lt ks g10 g11 g17 g18 (2) v wx)
  case first => as_aux_lemma =>
    cases eb with
    | false =>
      go_wp2_with fail; go_meet
      case rel => exact ⟨_, _, [], Sv.nil, [], rfl, by (try simp only [qp, qr, qs]); omega, CL.out, KP.out, HL.drop _ (sA [_] _)⟩
    | true =>
      have her : er = 0 := by have := HEB.out; simpa using this
      subst her
      have HSD : Hid (∃ ds, SdD w1 D1 x.sides ds) := hZ (by
        rcases HXX.out with ⟨_, h⟩ | h
        · exact h
        · cases h)
      clear HXX HEB; obtain ⟨ds, hsd⟩ := HSD.out; have SD := hZ hsd; clear hsd HSD; go_upto_region 6 with fail; refine Xv ?_; refine Xc7 ?_; refine X9c ?_; refine X5 ?_; refine Xa2 ?_; refine X4a ?_; intro K hK; refine Xn0 ?_; refine X1z ?_; (with_reducible refine (xgg root key x ds value lv _ (SD.out.at HL) (KP.out.v.at HL)).mono ?_); rintro e w ⟨cl, ok, rfl, hb, hcl, _⟩; have HCD := hZ (fun hok : ok = true => ClD.made HL hb KP.out.v (hcl hok)); clear hcl; replace KP := hZ (KP.out.turn HL hb); replace CL := hZ (CL.out.turn HL hb); replace SD := hZ (SD.out.turn HL hb); replace HL := HL.after hb; clear hb; obtain ⟨w1, rfl⟩ := eW w; generalize Rest w1 _ = D1 at HL KP CL SD HCD; refine X5c ?_; clear hK K; refine xah zr39 rfl rfl HL ?_; clear HL; intro g24 w HL; refine X5 ?_; refine Xfg ?_; refine X4k ?_; clear HL; intro w HL; go_upto_region 7 with fail; refine X14 ?_; refine X10 ?_
      cases ok with
      | true =>
        go_upto_region 8 with fail; refine X14 ?_; refine Xez ?_; refine X57 ?_; intro K hK; refine Xn1 ?_; clear HL; intro g85 w HL; refine Xa7 ?_; clear hK K; intro K hK; refine xam sl28 el39 _ _ rfl [_, _, _, _, _, _, _] [].length Sv.nil _ CL.out.g HL rfl ⟨g85, 0, none⟩ 1 1 cl.cells rfl (Rd.of_blk0 (es := []) (by rw [List.append_nil]; exact HL.blk (.head _))) (Clm.len _) (Clm.one _) (by decide) (by (try simp only [qp, qr, qs]); omega) (by (try simp only [qp, qr, qs]); omega) ?_; clear HL; intro sv1 Gsv1 w hG HL; simp only [qm, qn] at HL; refine Xal ?_; clear hK K; have CL2 := hZ (CL.out.more (HCD.out rfl) hG); clear CL hG; have CL := CL2; clear CL2; go_upto_region 9 with fail; refine Xv ?_; refine xaa rfl _ (xan ag23 HL _ rfl _ rfl _ _ (.tail _ (.tail _ (.tail _ (.tail _ (.tail _ (.tail _ (.head _))))))) (D32.cl _)) ?_; refine X5 ?_
        refine xaa rfl _ (xan ag24 HL _ rfl _ rfl _ _ (.tail _ (.tail _ (.tail _ (.tail _ (.tail _ (.head _)))))) (D32.cl _)) ?_; refine X5 ?_; refine xaa rfl _ (xan ag34 HL _ rfl _ rfl _ _ (.tail _ (.tail _ (.head _))) (Prv.len _)) ?_; refine X4a ?_; intro K hK; refine Xn0 ?_; refine Xn2 ?_; rintro e w ⟨cl2, ok2, rfl, hb, hcl, _⟩; have HCD2 := hZ (fun hok : ok2 = true => ClD.made HL hb KP.out.o (hcl hok)); clear hcl; replace KP := hZ (KP.out.turn HL hb); replace CL := hZ (CL.out.turn HL hb); replace SD := hZ (SD.out.turn HL hb); replace HL := HL.after hb; clear hb; obtain ⟨w1, rfl⟩ := eW w; generalize Rest w1 _ = D1 at HL KP CL SD HCD2; refine X5c ?_; clear hK K; refine xah zr39 rfl rfl HL ?_; clear HL; intro g26 w HL; refine X5 ?_; refine Xfg ?_; refine X4k ?_; clear HL; intro w HL; go_upto_region 10 with fail; refine X14 ?_; refine X10 ?_
        cases ok2 with
        | true =>
          go_upto_region 11 with fail; refine X14 ?_; refine Xez ?_; refine X57 ?_; intro K hK; refine xdu sl28 el39 (by decide) _ rfl HL cl2.cells rfl (Clm.len _) ?_; clear HL; intro g98 w HL; refine Xa7 ?_; clear hK K; intro K hK; refine xam sl28 el39 _ _ rfl [_, _, _, _, _, _, _, _, _] ([] ++ [cl]).length sv1 _ CL.out.g HL rfl ⟨g98, 0, none⟩ 1 1 cl2.cells rfl (Rd.of_blk0 (es := []) (by rw [List.append_nil]; exact HL.blk (.head _))) (Clm.len _) (Clm.one _) (by decide) (by (try simp only [qp, qr, qs]); omega) (by (try simp only [qp, qr, qs]); omega) ?_; clear HL; intro sw Gsw w hG HL; simp only [qm, qn] at HL; refine Xal ?_; clear hK K; have CL2 := hZ (CL.out.more (HCD2.out rfl) hG); clear CL hG; have CL := CL2; clear CL2; go_wp2_with fail; go_meet
          case rel => exact ⟨_, _, Gsw, sw, (([] ++ [cl]) ++ [cl2]), rfl, by (try simp only [qp, qr, qs]); omega, CL.out, KP.out, HL.drop _ (sA [_, _, _, _, _] _)⟩
        | false =>
          go_wp2_with fail; go_meet
          case rel => exact ⟨_, _, Gsv1, sv1, ([] ++ [cl]), rfl, by (try simp only [qp, qr, qs]); omega, CL.out, KP.out, HL.drop _ (sA [_, _, _, _] _)⟩
      | false =>
        go_upto_region 9 with fail; refine Xv ?_; refine Xn3 ?_; refine X5 ?_; refine Xen ?_; refine X5 ?_; refine Xc0 ?_; refine X4a ?_; intro K hK; refine Xn0 ?_; refine Xn2 ?_; rintro e w ⟨cl2, ok2, rfl, hb, hcl, _⟩; have HCD2 := hZ (fun hok : ok2 = true => ClD.made HL hb KP.out.o (hcl hok)); clear hcl; replace KP := hZ (KP.out.turn HL hb); replace CL := hZ (CL.out.turn HL hb); replace SD := hZ (SD.out.turn HL hb); replace HL := HL.after hb; clear hb; obtain ⟨w1, rfl⟩ := eW w; generalize Rest w1 _ = D1 at HL KP CL SD HCD2; refine X5c ?_; clear hK K; refine xah zr39 rfl rfl HL ?_; clear HL; intro g26 w HL; refine X5 ?_; refine Xfg ?_; refine X4k ?_; clear HL; intro w HL; go_upto_region 10 with fail; refine X14 ?_; refine X10 ?_
        cases ok2 with
        | true =>
          go_upto_region 11 with fail; refine X14 ?_; refine Xez ?_; refine X57 ?_; intro K hK; refine xdu sl28 el39 (by decide) _ rfl HL cl2.cells rfl (Clm.len _) ?_; clear HL; intro g98 w HL; refine Xa7 ?_; clear hK K; intro K hK; refine xam sl28 el39 _ _ rfl [_, _, _, _, _, _, _, _] [].length Sv.nil _ CL.out.g HL rfl ⟨g98, 0, none⟩ 1 1 cl2.cells rfl (Rd.of_blk0 (es := []) (by rw [List.append_nil]; exact HL.blk (.head _))) (Clm.len _) (Clm.one _) (by decide) (by (try simp only [qp, qr, qs]); omega) (by (try simp only [qp, qr, qs]); omega) ?_; clear HL; intro sw Gsw w hG HL; simp only [qm, qn] at HL; refine Xal ?_; clear hK K; have CL2 := hZ (CL.out.more (HCD2.out rfl) hG); clear CL hG; have CL := CL2; clear CL2; go_wp2_with fail; go_meet
          case rel => exact ⟨_, _, Gsw, sw, ([] ++ [cl2]), rfl, by (try simp only [qp, qr, qs]); omega, CL.out, KP.out, HL.drop _ (sA [_, _, _, _] _)⟩
        | false =>
          go_wp2_with fail; go_meet
          case rel => exact ⟨_, _, [], Sv.nil, [], rfl, by (try simp only [qp, qr, qs]); omega, CL.out, KP.out, HL.drop _ (sA [_, _, _] _)⟩
  case rest =>
    clear HL KP CL HXX HEB; obtain ⟨w1, D1, G, sv, xs, rfl, hxl, hcl, hkp, HL⟩ := hcut; obtain ⟨w, rfl⟩ := eW wc; have KP := hZ hkp; have CL := hZ hcl; clear hcl hkp; go_upto_region 12 with fail; refine X1y ?_; intro K hK; refine xad cf9 rfl _ rfl ?_; refine X1z ?_; (with_reducible refine (xf8 sketch lk _ (KP.out.m.at HL) hsk).mono ?_); rintro e w ⟨ps, bs, er, rfl, hb, hps, hpf, hpn⟩; have BD := hZ (BrD.fresh hps HL hpf); clear hps hpf; replace KP := hZ (KP.out.turn HL hb); replace CL := hZ (CL.out.turn HL hb); replace HL := HL.after hb; clear hb; obtain ⟨w1, rfl⟩ := eW w; generalize Rest w1 _ = D1 at HL KP CL BD; refine X5c ?_; clear hK K; refine xah zr44 rfl rfl HL ?_; clear HL; intro g28 w HL; refine X5 ?_; refine xa6 ag44 rfl _ _ rfl HL 0 g28 44 _ [Sv.v ps] rfl rfl rfl rfl rfl (by simp [Sv.v, Value.oneCell']) ?_; refine X2u ?_; clear HL; intro w HL
    obtain ⟨eb, heb⟩ : ∃ eb, (er == 0) = eb := ⟨_, rfl⟩; go_upto_region 13 with fail; refine X14 ?_; refine Xmz ?_; refine X22 ?_; clear heb
    go_upto_if 106 with fail
    go_cut [21] from 49 (fun v wx => TtS root key fr til w0 value other sketch stretch A n c lv lo lk lt ks g10 g11 g17 g18 (2 + 70) v wx)
    case first => as_aux_lemma =>
      cases eb with
      | false =>
        go_wp2_with fail; go_meet
        case rel => exact ⟨_, _, G, sv, xs, rfl, by (try simp only [qp, qr, qs]); omega, CL.out, KP.out, HL.drop _ (sA [_] _)⟩
      | true =>
        go_upto_region 14 with fail; refine X14 ?_; refine Xh4 ?_; refine X57 ?_; intro K hK; refine xad cf10 rfl _ rfl ?_; refine X1z ?_; (with_reducible refine (xrk A n c ks ps bs _ (KP.out.k.at HL) (BD.out.at HL) hnn).mono ?_); rintro e w ⟨h, er2, rfl, hb, hq⟩; replace HL := HL.next hb; clear hb; refine X5c ?_; clear hK K; refine xah zr23 rfl rfl HL ?_; clear HL; intro g30 w HL; refine X93 ?_; clear HL; intro w HL; rcases hq with ⟨rfl, hq⟩ | ⟨her, hq⟩
        · have HRQ := hZ hq
          clear hq; by_cases heq : h.l = root.l
          · have k5 : (h.l == root.l) = true := by rw [heq]; simp
            clear heq; go_upto_region 15 with fail; refine Xcv ?_; refine Xn4 ?_; refine X5 ?_; refine Xn5 ?_; refine X5 ?_; refine xab rfl _ (xcn ab25 _ _ rfl h root rfl rfl true k5) ?_; refine X2c ?_; go_upto_region 16 with fail; refine X1k ?_; go_wp2_with fail
            go_loopw [21, 32] (fun v z wr => ∃ (i : Nat) (w1 : World) (D1 : Nat → Prop) (G : List (Nat × Nat × List Value)) (sv : Sv) (xs : List Clm), v = sv.v ∧ z = .int .i64 (i : Int) ∧ i ≤ n ∧ xs.length ≤ 2 + i ∧ ClL root key w1 D1 G sv xs ∧ Kp w1 D1 w0 value other sketch stretch A n c lv lo lk lt ks ∧ BrD D1 w1 ps bs ∧
              Loc w1 D1 ((g30, 23, h.c) :: (g28, 44, [Sv.v ps]) :: (g18, 24, til.c) :: (g17, 24, fr.c) :: (g11, 24, key.c) :: (g10, 23, root.c) :: (G ++ [])) wr) (fun _ z _ => (n - intOf z).toNat)
            case atStart => exact ⟨0, _, _, G, sv, xs, rfl, rfl, Nat.zero_le _, by omega, CL.out, KP.out, BD.out, HL⟩
            case round => as_aux_lemma =>
              clear HL CL KP BD hxl; obtain ⟨i, w1, D1, G, sv, xs, rfl, rfl, hin, hxl, hcl, hkp, hbd, HL⟩ := hrel; obtain ⟨w, rfl⟩ := eW wr; have KP := hZ hkp; have CL := hZ hcl; have BD := hZ hbd; clear hcl hkp hbd; by_cases hlt : i < n
              · have k3 : decide ((i : Int) < (n : Int)) = true := by simp; omega
                refine Xaa ?_; intro HI; have hik : i < ks.length := by have := HKN.out; omega
                go_upto_region 17 with fail; refine Xhl ?_; refine Xgu ?_; go_upto_region 19 with fail; refine X14 ?_; refine Xjf ?_; refine X4a ?_; intro K hK; refine xad cf11 rfl _ rfl ?_; refine X1z ?_; (with_reducible refine (xp5 A n c ks ps bs h HRQ.out i hlt _ (KP.out.k.at HL) (BD.out.at HL) hnn).mono ?_); rintro e w ⟨x, ds, rfl, hb, hsd, hsf⟩; have SD := hZ (SdD.fresh hsd HL hsf); clear hsd hsf; replace KP := hZ (KP.out.turn HL hb); replace CL := hZ (CL.out.turn HL hb); replace BD := hZ (BD.out.turn HL hb); replace HL := HL.after hb; clear hb; obtain ⟨w1, rfl⟩ := eW w; generalize Rest w1 _ = D1 at HL KP CL BD SD; refine X5c ?_; clear hK K; refine xah zr34 rfl rfl HL ?_; clear HL; intro g33 w HL; refine X5 ?_; refine Xbo ?_; refine X4k ?_; clear HL; intro w HL; go_upto_region 20 with fail; refine Xa4 ?_; obtain ⟨ad, hA, hki⟩ := KP.out.k.get i hik
                obtain ⟨ki, hkie⟩ : ∃ ki, ks[i] = ki := ⟨_, rfl⟩; rw [hkie] at hki; refine Xh3 ?_; intro HSV; have HA := hZ hA; have HKE := hZ hkie; clear hA hkie; go_upto_region 22 with fail
                go_cut [35, 36] from 120 to 158 (fun p q wx => ∃ (ga : Nat) (cl : Clm) (ok : Bool) (w1 : World) (D1 : Nat → Prop), p = .pointer (some ⟨ga, 0, none⟩) ∧ q = .bool ok ∧ (ok = true → ClD root ki w1 D1 cl) ∧ ClL root key w1 D1 G sv xs ∧ Kp w1 D1 w0 value other sketch stretch A n c lv lo lk lt ks ∧ BrD D1 w1 ps bs ∧
                  Loc w1 D1 ((ga, 39, cl.cells) :: (g33, 34, x.cells) :: (g30, 23, h.c) :: (g28, 44, [Sv.v ps]) :: (g18, 24, til.c) :: (g17, 24, fr.c) :: (g11, 24, key.c) :: (g10, 23, root.c) :: (G ++ [])) wx)
                case first => as_aux_lemma =>
                  have HX := HL.drew; have HB := fun (L' : List (Nat × Nat × List Value)) (u : World) (hs : List.Sublist [(g33, 34, x.cells), (g30, 23, h.c), (g28, 44, [Sv.v ps]), (g18, 24, til.c), (g17, 24, fr.c), (g11, 24, key.c), (g10, 23, root.c)] L') (h : Loc w1 D1 L' u) => h.drop _ hs
                  replace HL := HL.drop [(g33, 34, x.cells), (g30, 23, h.c), (g28, 44, [Sv.v ps]), (g18, 24, til.c), (g17, 24, fr.c), (g11, 24, key.c), (g10, 23, root.c)] (by simp); refine rB (Loc.P HL) [] [7, 11, 12] [0, 1, 2, 3, 4, 5, 6] 7 ?_; refine X37 ?_; intro HL; refine xac rfl rfl HL (fun W hW => xan ag23 hW _ rfl _ rfl _ _ (.tail _ (.tail _ (.tail _ (.tail _ (.tail _ (.tail _ (.head _))))))) (D32.cl _)) ?_; refine X6k ?_; refine xac rfl rfl HL (fun W hW => xaz sl26 (.tmp 137) _ rfl ad n c i .i64 HSV.out rfl hlt) ?_; refine X5 ?_; refine Xn6 ?_; refine X5 ?_; refine xac rfl rfl HL (fun W hW => xan ag34 hW _ rfl _ rfl _ _ (.head _) (Prv.len _)) ?_; refine X3d ?_; refine Xd4 ?_; refine ⟨⟨rfl, ?_⟩, ⟨rfl, ?_⟩, trivial⟩
                  · intro K hK
                    refine Xn0 ?_; refine Xn7 ?_; rintro e w ⟨cl, ok, rfl, hb, hcl, _⟩; have HCD := hZ (fun hok : ok = true => ClD.made HX hb KP.out.v (hcl hok)); clear hcl; replace HB := fun (L' : List (Nat × Nat × List Value)) (u : World) (hs : List.Sublist [(g33, 34, x.cells), (g30, 23, h.c), (g28, 44, [Sv.v ps]), (g18, 24, til.c), (g17, 24, fr.c), (g11, 24, key.c), (g10, 23, root.c)] L') (h : Loc w (Rest w _) L' u) => Loc.back3 HX hb h hs (by simp)
                    replace HL := HL.next hb; replace KP := hZ (KP.out.turn HX hb); replace CL := hZ (CL.out.turn HX hb); replace BD := hZ (BD.out.turn HX hb); replace SD := hZ (SD.out.turn HX hb); replace HX := HX.after hb; clear hb; obtain ⟨w2, rfl⟩ := eW w; generalize Rest w2 _ = D2 at HX KP CL BD SD HCD HB; refine X65 ?_; clear hK K; refine xbj [8, 9, 10, 11, 12, 13] 0 (by kernel_rfl) ?_; refine X2 ?_; refine X38 ?_; refine X68 ?_; refine X67 ?_; refine Xk ?_; intro K hK; refine xf5 zr39 rfl HX ?_; clear HX HL; intro g35 w HX; have HL := HB _ _ (by simp) HX; refine X3x ?_; clear hK K; intro K hK; refine Xn8 ?_; refine Xdh ?_; clear HX HL; intro w HX; have HL := HB _ _ (by simp) HX; refine Xa0 ?_; clear hK K; go_wp2_with fail; go_meet
                    case rel => exact ⟨g35, cl, ok, _, _, rfl, rfl, HCD.out, CL.out, KP.out, BD.out, HX⟩
                  · intro K hK
                    refine xf5 zr39 rfl HX ?_; clear HX HL; intro g35 w HX; have HL := HB _ _ (by simp) HX; refine X3w ?_; clear hK K; refine xbj [7, 8, 9, 10, 12, 13] 0 (by kernel_rfl) ?_; refine Xd5 ?_; intro K hK; refine Xn0 ?_; refine Xn7 ?_; rintro e w ⟨cl, ok, rfl, hb, hcl, _⟩; have HCD := hZ (fun hok : ok = true => ClD.made HX hb KP.out.v (hcl hok)); clear hcl; replace HB := fun (L' : List (Nat × Nat × List Value)) (u : World) (hs : List.Sublist [(g33, 34, x.cells), (g30, 23, h.c), (g28, 44, [Sv.v ps]), (g18, 24, til.c), (g17, 24, fr.c), (g11, 24, key.c), (g10, 23, root.c)] L') (h : Loc w (Rest w _) L' u) => Loc.back3 HX hb h hs (by simp)
                    replace HL := HL.next hb; replace KP := hZ (KP.out.turn HX hb); replace CL := hZ (CL.out.turn HX hb); replace BD := hZ (BD.out.turn HX hb); replace SD := hZ (SD.out.turn HX hb); replace HX := HX.after hb; clear hb; obtain ⟨w2, rfl⟩ := eW w; generalize Rest w2 _ = D2 at HX KP CL BD SD HCD HB; refine X5i ?_; clear hK K; refine X3d ?_; refine X68 ?_; refine X67 ?_; refine Xk ?_; intro K hK; refine Xn8 ?_; refine Xdh ?_; clear HX HL; intro w HX; have HL := HB _ _ (by simp) HX; refine Xa0 ?_; clear hK K; go_wp2_with fail; go_meet
                    case rel => exact ⟨g35, cl, ok, _, _, rfl, rfl, HCD.out, CL.out, KP.out, BD.out, HX⟩
                case rest =>
                  clear HL KP CL BD SD hki; obtain ⟨g35, cl, ok, w1, D1, rfl, rfl, hcd, hcl, hkp, hbd, HL⟩ := hcut; obtain ⟨w, rfl⟩ := eW wc; have KP := hZ hkp; have CL := hZ hcl; have BD := hZ hbd; have HCD := hZ hcd; clear hcl hkp hbd hcd; obtain ⟨ad', hA', hki⟩ := KP.out.k.get i hik; have hAA := HA.out; rw [hAA] at hA'; cases hA'; rw [HKE.out] at hki; by_cases heq2 : ki.l = key.l
                  · have k5b : (ki.l == key.l) = true := by rw [heq2]; simp
                    have hke := D32.ext heq2; subst hke; clear heq2 hAA; go_upto_region 23 with fail; refine X36 ?_; refine X3u ?_; intro HL; refine Xn9 ?_; refine X5 ?_; refine Xn6 ?_; refine X5 ?_; refine Xna ?_; refine X5 ?_; refine xac rfl rfl HL (fun W hW => xcn ab23 _ _ rfl ki ki rfl rfl true k5b) ?_; refine X6k ?_; refine X6t ?_
                    cases ok with
                    | true =>
                      go_upto_region 24 with fail; refine X14 ?_; refine Xez ?_; refine X57 ?_; intro K hK; refine Xn1 ?_; clear HL; intro g157 w HL; refine Xa7 ?_; clear hK K; intro K hK; refine xam sl28 el39 _ _ rfl [_, _, _, _, _, _, _, _, _] xs.length sv _ CL.out.g HL rfl ⟨g157, 0, none⟩ 1 1 cl.cells rfl (Rd.of_blk0 (es := []) (by rw [List.append_nil]; exact HL.blk (.head _))) (Clm.len _) (Clm.one _) (by decide) (by (try simp only [qp, qr, qs]); omega) (by (try simp only [qp, qr, qs]); omega) ?_; clear HL; intro sv2 Gsv2 w hG HL; simp only [qm, qn] at HL; refine Xal ?_; clear hK K; have CL2 := hZ (CL.out.more (HCD.out rfl) hG); clear CL hG; have CL := CL2; clear CL2; go_upto_region 18 with fail; refine Xbh ?_; go_wp2_with fail; go_roundw
                      case rel => exact ⟨i + 1, _, _, Gsv2, sv2, xs ++ [cl], rfl, rfl, by omega, by rw [List.length_append]; simp only [qr, qs]; omega, CL.out, KP.out, BD.out, HL.drop _ (sA [_, _, _] _)⟩
                      case measure => simp [intOf] <;> omega
                    | false =>
                      go_upto_region 18 with fail; refine Xbh ?_; go_wp2_with fail; go_roundw
                      case rel => exact ⟨i + 1, _, _, G, sv, xs, rfl, rfl, by omega, by omega, CL.out, KP.out, BD.out, HL.drop _ (sA [_, _] _)⟩
                      case measure => simp [intOf] <;> omega
                  · have k5b : (ki.l == key.l) = false := by simp [heq2]
                    clear heq2 hAA; go_upto_region 23 with fail; refine X36 ?_; refine X3u ?_; intro HL; refine Xn9 ?_; refine X5 ?_; refine Xn6 ?_; refine X5 ?_; refine Xna ?_; refine X5 ?_; refine xac rfl rfl HL (fun W hW => xcn ab23 _ _ rfl ki key rfl rfl false k5b) ?_; refine X3d ?_; refine X7g ?_; refine X6t ?_; go_upto_region 18 with fail; refine Xbh ?_; go_wp2_with fail; go_roundw
                    case rel => exact ⟨i + 1, _, _, G, sv, xs, rfl, rfl, by omega, by omega, CL.out, KP.out, BD.out, HL.drop _ (sA [_, _] _)⟩
                    case measure => simp [intOf] <;> omega
              · have k3 : decide ((i : Int) < (n : Int)) = false := by simp; omega
                go_upto_region 17 with fail; refine Xhl ?_; refine Xgu ?_; go_wp2_with fail; go_meet
                case rel => exact ⟨_, _, G, sv, xs, rfl, by (try simp only [qp, qr, qs]); omega, CL.out, KP.out, HL.drop _ (sA [_, _] _)⟩
          · have k5 : (h.l == root.l) = false := by simp [heq]
            clear heq; go_upto_region 15 with fail; refine Xcv ?_; refine Xn4 ?_; refine X5 ?_; refine Xn5 ?_; refine X5 ?_; refine xab rfl _ (xcn ab25 _ _ rfl h root rfl rfl false k5) ?_; refine X2c ?_; go_wp2_with fail; go_meet
            case rel => exact ⟨_, _, G, sv, xs, rfl, by (try simp only [qp, qr, qs]); omega, CL.out, KP.out, HL.drop _ (sA [_, _] _)⟩
        · have HER := hZ her
          clear her hq; go_upto_region 15 with fail; refine X14 ?_; refine xaa rfl _ (xao (b := false) _ _ rfl _ _ rfl rfl HER.out) ?_; refine X59 ?_; go_wp2_with fail; go_meet
          case rel => exact ⟨_, _, G, sv, xs, rfl, by (try simp only [qp, qr, qs]); omega, CL.out, KP.out, HL.drop _ (sA [_, _] _)⟩
    case rest =>
      clear HL KP CL BD hxl; obtain ⟨w1, D1, G, sv, xs, rfl, hxl, hcl, hkp, HL⟩ := hcut; obtain ⟨w, rfl⟩ := eW wc; have KP := hZ hkp; have CL := hZ hcl; clear hcl hkp; go_upto_region 25 with fail; refine X1y ?_; intro K hK; refine xad cf12 rfl _ rfl ?_; refine X1z ?_; (with_reducible refine (xp4 stretch lt _ (KP.out.t.at HL) hst).mono ?_); rintro e w ⟨sx, er, bs, lvs, rfl, hb, hbs, hbf, htx⟩; have BD := hZ (BrD.fresh hbs HL hbf); obtain ⟨vs, htr⟩ := TrD.fresh htx HL; have TR := hZ htr; clear hbs hbf htx htr; replace KP := hZ (KP.out.turn HL hb); replace CL := hZ (CL.out.turn HL hb); replace HL := HL.after hb; clear hb; obtain ⟨w1, rfl⟩ := eW w; generalize Rest w1 _ = D1 at HL KP CL BD TR; refine X5c ?_; clear hK K; refine xah zr52 rfl rfl HL ?_; clear HL; intro g37 w HL; refine X5 ?_
      refine xa6 ag52 rfl _ _ rfl HL 0 _ _ _ _ rfl rfl rfl (Spv.len _) (Spv.len _) (Spv.one _) ?_; refine X4k ?_; clear HL; intro w HL; obtain ⟨eb, heb⟩ : ∃ eb, (er == 0) = eb := ⟨_, rfl⟩; go_upto_region 26 with fail; refine X14 ?_; refine Xmz ?_; refine X22 ?_; clear heb
      go_upto_if 165 with fail
      go_cut [21] from 49 (fun v wx => TtS root key fr til w0 value other sketch stretch A n c lv lo lk lt ks g10 g11 g17 g18 (2 + 70 + 1) v wx)
      case first => as_aux_lemma =>
        cases eb with
        | false =>
          go_wp2_with fail; go_meet
          case rel => exact ⟨_, _, G, sv, xs, rfl, by (try simp only [qp, qr, qs]); omega, CL.out, KP.out, HL.drop _ (sA [_] _)⟩
        | true =>
          go_upto_region 27 with fail; refine Xv ?_; refine Xc7 ?_; refine Xbz ?_; refine X5 ?_; refine X79 ?_; refine X5 ?_; refine Xlw ?_; refine X57 ?_; intro K hK; refine xad cf13 rfl _ rfl ?_; refine X1z ?_; (with_reducible refine (xrm root fr til sx bs lvs _ (BD.out.at HL) (TR.out.at HL)).mono ?_); rintro e w ⟨sp, er2, rfl, hb, hq⟩; have HPQ := hZ (hq.imp_left (fun ⟨h1, r, ps, h2, h3, h4⟩ => (⟨h1, r, ps, h2, h3, PaD.fresh h4 HL⟩ : er2 = 0 ∧ ∃ r ps, rdS fr til fr bs lvs = some r ∧ r.dig.l = root.l ∧ PaD w (Rest w _) sp (r.ents.map Prod.fst) lvs ps))); clear hq; replace KP := hZ (KP.out.turn HL hb); replace CL := hZ (CL.out.turn HL hb); replace BD := hZ (BD.out.turn HL hb); replace TR := hZ (TR.out.turn HL hb); replace HL := HL.after hb; clear hb; obtain ⟨w1, rfl⟩ := eW w; generalize Rest w1 _ = D1 at HL KP CL BD TR HPQ; refine X6o ?_; clear hK K
          rcases HPQ.out with ⟨rfl, r, ps, hrd, hdig, hpd⟩ | her
          · have PD := hZ hpd
            have HRD := hZ hrd; have HDG := hZ hdig; clear hpd hrd hdig HPQ; obtain ⟨c1, hc1⟩ : ∃ b, decide (cmpZ (nOf fr.l) (nOf key.l) ≤ (0 : Int)) = b := ⟨_, rfl⟩; obtain ⟨c2, hc2⟩ : ∃ b, decide (cmpZ (nOf key.l) (nOf til.l) ≤ (0 : Int)) = b := ⟨_, rfl⟩; have HC1 := hZ hc1; have HC2 := hZ hc2; clear hc1 hc2
            cases c1 with
            | false =>
              go_upto_region 28 with fail; refine Xcv ?_; refine X17 ?_; refine Xiq ?_; refine Xcd ?_; refine X5p ?_; intro K hK; refine Xnb ?_; refine X5x ?_; clear hK K; intro w HL; refine xab rfl _ (xd2 (b := false) _ _ rfl _ _ rfl rfl HC1.out) ?_; refine X27 ?_; refine X73 ?_; go_wp2_with fail; go_meet
              case rel => exact ⟨_, _, G, sv, xs, rfl, by (try simp only [qp, qr, qs]); omega, CL.out, KP.out, HL.drop _ (sA [_] _)⟩
            | true =>
              cases c2 with
              | false =>
                go_upto_region 28 with fail; refine Xcv ?_; refine X17 ?_; refine Xiq ?_; refine Xcd ?_; refine X5p ?_; intro K hK; refine Xnb ?_; refine X5x ?_; clear hK K; intro w HL; refine Xnc ?_; refine Xcc ?_; refine X5 ?_; refine Xjq ?_; refine X5p ?_; intro K hK; refine Xjn ?_; (with_reducible refine (xcw _ key til).mono ?_); refine X5x ?_; clear hK K; intro w HL; refine xab rfl _ (xd2 (b := false) _ _ rfl _ _ rfl rfl HC2.out) ?_; refine X2c ?_; go_wp2_with fail; go_meet
                case rel => exact ⟨_, _, G, sv, xs, rfl, by (try simp only [qp, qr, qs]); omega, CL.out, KP.out, HL.drop _ (sA [_] _)⟩
              | true =>
                have HIN : Hid (inB fr.l til.l key.l = true) := hZ (by
                  have h1 := HC1.out; have h2 := HC2.out; rw [xnp] at h1 h2; unfold inB
                  rw [h1, h2]; rfl)
                obtain ⟨r2, hr2, hd2, he2⟩ := rdS_key (k2 := key) HRD.out; have HR2 := hZ hr2; have HD2 := hZ hd2; have HE2 := hZ he2; clear hr2 hd2 he2; go_upto_region 28 with fail; refine Xcv ?_; refine X17 ?_; refine Xiq ?_; refine Xcd ?_; refine X5p ?_; intro K hK; refine Xnb ?_; refine X5x ?_; clear hK K; intro w HL; refine Xnc ?_; refine Xcc ?_; refine X5 ?_; refine Xjq ?_; refine X5p ?_; intro K hK; refine Xjn ?_; (with_reducible refine (xcw _ key til).mono ?_); refine X5x ?_; clear hK K; intro w HL; refine xab rfl _ (xd2 (b := true) _ _ rfl _ _ rfl rfl HC2.out) ?_; refine X2c ?_; go_upto_region 29 with fail; refine Xv ?_; refine Xbz ?_; refine X5 ?_; refine X79 ?_; refine X5 ?_; refine Xlw ?_; refine X5 ?_; refine X9c ?_; refine X57 ?_; intro K hK; refine xad cf15 rfl _ rfl ?_; refine X1z ?_
                (with_reducible refine (xp6 fr til key sx bs lvs r2 HR2.out HIN.out _ (BD.out.at HL) (TR.out.at HL)).mono ?_); rintro e w ⟨x, rfl, hb, hsd, hsf, hnd⟩; have SD := hZ (SdD.fresh hsd HL hsf); have HND := hZ hnd; have HSN := hZ hsd.len; clear hsd hsf hnd; replace KP := hZ (KP.out.turn HL hb); replace CL := hZ (CL.out.turn HL hb); replace PD := hZ (PD.out.turn HL hb); replace HL := HL.after hb; clear hb; obtain ⟨w1, rfl⟩ := eW w; generalize Rest w1 _ = D1 at HL KP CL PD SD; refine X5c ?_; clear hK K; refine xah zr34 rfl rfl HL ?_; clear HL; intro g41 w HL; refine X5 ?_; refine Xbo ?_; refine X4k ?_; clear HL; intro w HL; clear BD TR; go_upto_region 30 with fail; refine X6x ?_; go_upto_region 31 with fail; refine X1k ?_; have HPL : Hid (sp.n = lvs.length) := hZ (by have h1 := PD.out.n; have h2 := PD.out.len; omega); have HPN := hZ PD.out.n
                have hsp256 : sp.n ≤ 256 := by have h1 := (xe9 HRD.out).2.1; have h2 := HPL.out; omega
                go_wp2_with fail
                go_loopw [43, 44] (fun v z wr => ∃ (i : Nat) (s : Sv) (l : List UInt8), i ≤ sp.n ∧ v = s.v ∧ z = .int .i64 (i : Int) ∧ TxD w1 D1 s l ∧ LastV (r.ents.map Prod.fst) lvs key i lv l ∧
                  Loc w1 D1 ((g41, 34, x.cells) :: (g37, 52, sx.cells) :: (g18, 24, til.c) :: (g17, 24, fr.c) :: (g11, 24, key.c) :: (g10, 23, root.c) :: (G ++ [])) wr) (fun _ z _ => (sp.n - intOf z).toNat)
                case atStart => exact ⟨0, value, lv, Nat.zero_le _, rfl, rfl, KP.out.v, .inl ⟨rfl, fun j hj => absurd hj (Nat.not_lt_zero _)⟩, HL⟩
                case round => as_aux_lemma =>
                  clear HL; obtain ⟨i, sv3, l3, hin, rfl, rfl, htd, hlv, HL⟩ := hrel; obtain ⟨w, rfl⟩ := eW wr; have TD := hZ htd; have LV := hZ hlv; clear htd hlv; by_cases hlt : i < sp.n
                  · have k3 : decide ((i : Int) < (sp.n : Int)) = true := by simp; omega
                    refine Xaa ?_; intro HI; have hip : i < ps.length := by have := HPN.out; omega
                    obtain ⟨ad, hA, hpr⟩ := PD.out.at_ i hip; have HSV : Hid (sp.v = .slice (some ad) sp.n sp.c) := hZ (by unfold Sv.v; rw [hA]); have htp := PD.out.tx i hip
                    have hkp2 : (r.ents.map Prod.fst).getD i D32.z = ps[i].key := by
                      rw [← PD.out.key, List.getD_eq_getElem?_getD, List.getElem?_map, List.getElem?_eq_getElem hip]; rfl
                    have HTP := hZ htp; have HKP := hZ hkp2; clear hA htp hkp2; generalize ps[i] = p at hpr HTP HKP
                    have hpk : ∀ (L : List (Nat × Nat × List Value)) (W : World), Loc w1 D1 L W → Rd W (some ((ad.add (i * 33)).add 0)) p.key.c := fun L W hW => by
                      have h1 := (hpr L W hW).cut 0 32; rw [Par.g_key] at h1; exact h1
                    have hpv : ∀ (L : List (Nat × Nat × List Value)) (W : World), Loc w1 D1 L W → Rd W (some ((ad.add (i * 33)).add 32)) [p.val.v] := fun L W hW => by
                      have h1 := (hpr L W hW).cut 32 1; rw [xp3 (Par.g_val p)] at h1; exact h1
                    go_upto_region 32 with fail; refine X1b ?_; refine xaa rfl _ (xa8 Tryz.underlying55 _ rfl _ _ _ rfl) ?_; refine X5 ?_; refine Xgu ?_; by_cases heq2 : p.key.l = key.l
                    · have k6 : (p.key.l == key.l) = true := by rw [heq2]; simp
                      go_upto_region 34 with fail; refine rB (Loc.P HL) [] [] [0, 1, 2, 3, 4, 5, 6] 0 ?_; refine X3u ?_; intro HL; refine Xnd ?_; refine X5 ?_; refine xac rfl rfl HL (fun W hW => xhf fa61_0 _ rfl _ rfl) ?_; refine X5 ?_; refine Xne ?_; refine X5 ?_; refine Xkv ?_; refine X5 ?_; refine xac rfl rfl HL (fun W hW => xcn ab23 _ _ rfl p.key key rfl rfl true k6) ?_; refine Xd ?_; go_upto_region 35 with fail; refine X1b ?_; refine xaa rfl _ (xaz sl55 (.tmp 210) _ rfl ad sp.n sp.c i .i64 HSV.out rfl hlt) ?_; refine X5 ?_; refine xaa rfl _ (xhf fa61_1 _ rfl _ rfl) ?_; refine X5 ?_; refine xaa rfl _ (xcx sc25 _ rfl _ _ rfl (hpv _ _ HL)) ?_; refine X1c ?_; go_upto_region 33 with fail; refine Xbh ?_; go_wp2_with fail; go_roundw
                      case rel => exact ⟨i + 1, p.val, _, by omega, rfl, rfl, HTP.out, LastV.yes (by rw [HKP.out]; exact heq2), HL⟩
                      case measure => simp [intOf] <;> omega
                    · have k6 : (p.key.l == key.l) = false := by simp [heq2]
                      go_upto_region 34 with fail; refine rB (Loc.P HL) [] [] [0, 1, 2, 3, 4, 5, 6] 0 ?_; refine X3u ?_; intro HL; refine Xnd ?_; refine X5 ?_; refine xac rfl rfl HL (fun W hW => xhf fa61_0 _ rfl _ rfl) ?_; refine X5 ?_; refine Xne ?_; refine X5 ?_; refine Xkv ?_; refine X5 ?_; refine xac rfl rfl HL (fun W hW => xcn ab23 _ _ rfl p.key key rfl rfl false k6) ?_; refine Xd ?_; go_upto_region 33 with fail; refine Xbh ?_; go_wp2_with fail; go_roundw
                      case rel => exact ⟨i + 1, sv3, l3, by omega, rfl, rfl, TD.out, LV.out.no (by rw [HKP.out]; exact heq2), HL⟩
                      case measure => simp [intOf] <;> omega
                  · have k3 : decide ((i : Int) < (sp.n : Int)) = false := by simp; omega
                    have HGD : Hid (Good root key x r2.sides.reverse l3) := hZ (by
                      refine xut root fr til key bs lvs r2 x l3 HR2.out HIN.out (by rw [HD2.out]; exact HDG.out) HND.out (by rw [← HSN.out, List.length_reverse]) ?_
                      exact LastV.fits (n := i) HR2.out HIN.out (by have := HPL.out; omega) (by rw [HE2.out]; exact LV.out))
                    go_upto_region 32 with fail; refine X1b ?_; refine xaa rfl _ (xa8 Tryz.underlying55 _ rfl _ _ _ rfl) ?_; refine X5 ?_; refine Xgu ?_; go_upto_region 36 with fail; refine Xv ?_; refine Xn3 ?_; refine X5 ?_; refine Xen ?_; refine X5 ?_; refine Xa2 ?_; refine X4a ?_; intro K hK; refine Xn0 ?_; refine X1z ?_; (with_reducible refine (xrn root key x r2.sides.reverse sv3 l3 _ HGD.out (SD.out.at HL) (TD.out.at HL)).mono ?_); rintro e w ⟨cl, rfl, hb, hcl⟩; have HCD := hZ (ClD.made HL hb TD.out hcl); clear hcl; replace KP := hZ (KP.out.turn HL hb); replace CL := hZ (CL.out.turn HL hb); replace HL := HL.after hb; clear hb; obtain ⟨w2, rfl⟩ := eW w; generalize Rest w2 _ = D2 at HL KP CL HCD; refine X5c ?_; clear hK K; refine xah zr39 rfl rfl HL ?_; clear HL; intro g45 w HL; refine X5 ?_; refine Xfg ?_; refine X4k ?_; clear HL; intro w HL; go_upto_region 37 with fail
                    refine X94 ?_; refine X1o ?_; refine Xb1 ?_; go_upto_region 39 with fail; refine X14 ?_; refine Xez ?_; refine X57 ?_; intro K hK; refine Xn1 ?_; clear HL; intro g231 w HL; refine Xa7 ?_; clear hK K; intro K hK; refine xam sl28 el39 _ _ rfl [_, _, _, _, _, _, _, _] xs.length sv _ CL.out.g HL rfl ⟨g231, 0, none⟩ 1 1 cl.cells rfl (Rd.of_blk0 (es := []) (by rw [List.append_nil]; exact HL.blk (.head _))) (Clm.len _) (Clm.one _) (by decide) (by (try simp only [qp, qr, qs]); omega) (by (try simp only [qp, qr, qs]); omega) ?_; clear HL; intro sv4 Gsv4 w hG HL; simp only [qm, qn] at HL; refine Xal ?_; clear hK K; have CL2 := hZ (CL.out.more HCD.out hG); clear CL hG; have CL := CL2; clear CL2; go_wp2_with fail; go_meet
                    case rel => exact ⟨_, _, Gsv4, sv4, (xs ++ [cl]), rfl, by (try simp only [qp, qr, qs]); omega, CL.out, KP.out, HL.drop _ (sA [_, _, _, _] _)⟩
          · skip
            go_upto_region 28 with fail; refine Xcy ?_; refine X2h ?_; refine X1l ?_; refine X73 ?_; go_wp2_with fail; go_meet
            case rel => exact ⟨_, _, G, sv, xs, rfl, by (try simp only [qp, qr, qs]); omega, CL.out, KP.out, HL.drop _ (sA [_] _)⟩
      case rest =>
        clear HL KP CL BD TR hxl; obtain ⟨w1, D1, G, sv, xs, rfl, hxl, hcl, hkp, HL⟩ := hcut; obtain ⟨w, rfl⟩ := eW wc; have KP := hZ hkp; have CL := hZ hcl; clear hcl hkp; go_upto_region 40 with fail; refine X1k ?_; go_wp2_with fail
        go_loopw [47] (fun z wr => ∃ i : Nat, i ≤ xs.length ∧ z = .int .i64 (i : Int) ∧ Loc w1 D1 ((g18, 24, til.c) :: (g17, 24, fr.c) :: (g11, 24, key.c) :: (g10, 23, root.c) :: (G ++ [])) wr) (fun z _ => (xs.length - intOf z).toNat)
        case atStart => exact ⟨0, Nat.zero_le _, rfl, HL⟩
        case round => as_aux_lemma =>
          clear HL; obtain ⟨i, hi, rfl, HL⟩ := hrel; obtain ⟨w, rfl⟩ := eW wr; have HSL : Hid (sv.n = xs.length) := hZ CL.out.g.len; by_cases hlt : i < xs.length
          · have k3 : decide ((i : Int) < (xs.length : Int)) = true := by simp; omega
            refine Xaa ?_; intro HI; obtain ⟨gc, cap, hsv, hget⟩ := CL.out.get (by omega); have HSV := hZ hsv; clear hsv; obtain ⟨xi, hxi⟩ : ∃ xi, xs[i] = xi := ⟨_, rfl⟩; have hgi : ∀ (L : List (Nat × Nat × List Value)) (W : World), (∀ y ∈ G, y ∈ L) → Loc w1 D1 L W → Rd W (some ((⟨gc, 0, none⟩ : Addr).add (i * 3))) xi.cells := fun L W hm hW => by rw [← hxi]; exact hget L W hm hW i hlt
            have HCI : Hid (ClD root key w1 D1 xi) := hZ (by rw [← hxi]; exact CL.out.x _ (List.getElem_mem _)); clear hxi; go_upto_region 41 with fail; refine Xnf ?_; refine X5 ?_; refine Xgu ?_; go_upto_region 43 with fail; refine X1k ?_; go_wp2_with fail
            go_loopw [48] (fun z wr => ∃ j : Nat, j ≤ i ∧ z = .int .i64 (j : Int) ∧ Loc w1 D1 ((g18, 24, til.c) :: (g17, 24, fr.c) :: (g11, 24, key.c) :: (g10, 23, root.c) :: (G ++ [])) wr) (fun z _ => (i - intOf z).toNat)
            case atStart => exact ⟨0, Nat.zero_le _, rfl, HL⟩
            case round => as_aux_lemma =>
              clear HL; obtain ⟨j, hj, rfl, HL⟩ := hrel; obtain ⟨w, rfl⟩ := eW wr; by_cases hjt : j < i
              · have k2 : decide ((j : Int) < (i : Int)) = true := by simp; omega
                have HJ : Hid ((j : Int) + 1 = ((j + 1 : Nat) : Int)) := hZ (by omega); have hjx : j < xs.length := by omega
                obtain ⟨xj, hxj⟩ : ∃ xj, xs[j] = xj := ⟨_, rfl⟩; have hgj : ∀ (L : List (Nat × Nat × List Value)) (W : World), (∀ y ∈ G, y ∈ L) → Loc w1 D1 L W → Rd W (some ((⟨gc, 0, none⟩ : Addr).add (j * 3))) xj.cells := fun L W hm hW => by rw [← hxj]; exact hget L W hm hW j hjx
                have HCJ : Hid (ClD root key w1 D1 xj) := hZ (by rw [← hxj]; exact CL.out.x _ (List.getElem_mem _)); clear hxj; have hmG : ∀ y ∈ G, y ∈ ((g18, 24, til.c) :: (g17, 24, fr.c) :: (g11, 24, key.c) :: (g10, 23, root.c) :: (G ++ [])) := fun y hy => by simp [hy]
                go_upto_region 44 with fail; refine Xho ?_
                have CS : ∀ u : World, Loc w1 D1 ((g18, 24, til.c) :: (g17, 24, fr.c) :: (g11, 24, key.c) :: (g10, 23, root.c) :: (G ++ [])) u → Hid (Calls Tryz.prog 16 #[root.a, key.a, .agg xj.cells.toArray, .agg xi.cells.toArray] u fun e w' => e = .returned (.bool true) ∧ Below u.heap.size u w') := fun u hu => hZ (by
                  obtain ⟨lw, lb, h1, h2⟩ := HCJ.out.at hu; obtain ⟨mw, mb, h3, h4⟩ := HCI.out.at hu
                  exact xrc root key xj xi lw lb mw mb u h1 h3 h2 h4)
                go_upto_region 46 with fail; refine rB (Loc.P HL) [] [10] [0, 1, 2, 3, 4, 5, 6, 7, 8, 9, 10, 11] 0 ?_; refine X37 ?_; intro HL; refine xac rfl rfl HL (fun W hW => xan ag23 hW _ rfl _ rfl _ _ (.tail _ (.tail _ (.tail _ (.head _)))) (D32.cl _)) ?_; refine Xkp ?_; refine X6k ?_; refine xac rfl rfl HL (fun W hW => xaz sl28 (.tmp 246) _ rfl ⟨gc, 0, none⟩ xs.length cap j .i64 HSV.out rfl hjx) ?_; refine X5 ?_; refine xac rfl rfl HL (fun W hW => xay ag39 _ rfl _ xj.cells rfl (hgj _ _ hmG hW) (by omega) (Clm.len _)) ?_; refine X6k ?_; refine xac rfl rfl HL (fun W hW => xaz sl28 (.tmp 250) _ rfl ⟨gc, 0, none⟩ xs.length cap i .i64 HSV.out rfl hlt) ?_; refine X5 ?_; refine xac rfl rfl HL (fun W hW => xay ag39 _ rfl _ xi.cells rfl (hgi _ _ hmG hW) (by omega) (Clm.len _)) ?_; refine Xk ?_; intro K hK; refine xad cf16 rfl _ rfl ?_; refine X1z ?_
                (with_reducible refine ((CS _ HL).out).mono ?_); refine X6s ?_; clear hK K; intro w HL; refine Xb9 ?_; refine Xd ?_; go_upto_region 45 with fail; refine X14 ?_; refine xaa rfl _ (xbr _ _ rfl _ _ _ rfl rfl HJ.out (by omega)) ?_; refine X1c ?_; go_wp2_with fail; go_roundw
                case rel => exact ⟨j + 1, by omega, rfl, HL⟩
                case measure => simp [intOf] <;> omega
              · have k2 : decide ((j : Int) < (i : Int)) = false := by simp; omega
                go_upto_region 44 with fail; refine Xho ?_; go_upto_region 42 with fail; refine Xbh ?_; go_wp2_with fail; go_roundw
                case rel => exact ⟨i + 1, by omega, rfl, HL⟩
                case measure => simp [intOf] <;> omega
          · have k3 : decide ((i : Int) < (xs.length : Int)) = false := by simp; omega
            go_upto_region 41 with fail; refine Xnf ?_; refine X5 ?_; refine Xgu ?_; go_upto_region 48 with fail; refine X1k ?_; go_wp2_with fail; go_ret; exact ⟨rfl, KP.out.b.at HL⟩
end
end Go.Proofs.YtkjjdgnkelchfaaGreat
