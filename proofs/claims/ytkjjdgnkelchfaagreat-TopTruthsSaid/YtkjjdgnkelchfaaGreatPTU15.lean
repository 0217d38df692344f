import Derived.Test.YtkjjdgnkelchfaaGreatPTU14
set_option linter.unusedSimpArgs false
set_option linter.unusedVariables false
set_option maxRecDepth 100000
set_option maxHeartbeats 16000000
namespace Go.Proofs.YtkjjdgnkelchfaaGreat
open Go Go.RowKit
structure BrS (w : World) (v : Sv) (bs : List Brv) : Prop where
  rd : Rd w v.A (bs.flatMap Brv.cells)
  len : bs.length = v.n
  cap : v.n ≤ v.c
  k : ∀ b ∈ bs, b.kind < 256
theorem BrS.below {w w' : World} {v : Sv} {bs : List Brv} (h : BrS w v bs) (hb : Below w.heap.size w w') : BrS w' v bs := ⟨h.rd.below hb, h.len, h.cap, h.k⟩
theorem BrS.at_ {w : World} {v : Sv} {bs : List Brv} (h : BrS w v bs) (i : Nat) (hi : i < bs.length) : ∃ ad, v.A = some ad ∧ Rd w (some (ad.add (i * 97))) bs[i].cells := by
  obtain ⟨ad, e, _⟩ := h.rd (by rw [xbx Brv.len]; omega); refine ⟨ad, e, ?_⟩; have h2 := h.rd.cut (i * 97) 97; rw [e] at h2; have h3 := xda (f := Brv.cells) Brv.len bs [] i hi; rw [List.append_nil] at h3; rw [h3] at h2; exact h2
def ErrC (n : Nat) (w0 : World) (P : Prop) (e : Ending) (w' : World) : Prop := ∃ er : Int, e = .returned (.int .i64 er) ∧ Below n w0 w' ∧ (er = 0 → P)
abbrev mval (v : Sv) : Value := .agg [Sv.v v].toArray
section
variable {w w' : World}
theorem xiz (ps : Sv) (bs : List Brv) (w : World) (hs : BrS w ps bs) : Calls Tryz.prog 55 #[mval ps] w (ErrC w.heap.size w (ps.n ≤ 65536)) := by
  have HS := hZ hs; have HLEN := hZ hs.len; clear hs; have HL := Loc.start w; obtain ⟨w0, rfl⟩ := eW w; go_enter Tryz.func55, Tryz.ntmps55; go_upto_region 0 with fail; refine X7t ?_; clear HL; intro g1 w HL; by_cases hl : ps.n ≤ 65536
  · have k1 : decide ((65536 : Int) < (ps.n : Int)) = false := by simp; omega
    go_upto_region 1 with fail; refine Xgd ?_; refine Xgf ?_; refine X91 ?_; go_upto_region 3 with fail; refine X8h ?_; intro K hK; refine Xgg ?_; clear HL; intro g10 w HL; refine Xa6 ?_; clear hK K; refine xah zr192 rfl rfl HL ?_; clear HL; intro g3 w HL; refine X5 ?_; refine Xga ?_; refine X3j ?_; clear HL; intro w HL; have HL0 := HL.perm (L' := (g1, 44, [Sv.v ps]) :: (g3, 192, [Value.slice (some ⟨g10, 0, none⟩) 1 1]) :: (g10, 3, [Value.int .i64 0]) :: []) (by exact (List.perm_append_singleton _ [_, _]).symm); clear HL; have HL := HL0; clear HL0; go_upto_region 4 with fail; refine Xgd ?_; refine Xge ?_; refine X1h ?_; go_wp2_with fail
    go_loopw [14] (fun z wr => ∃ (i : Nat) (G : List (Nat × Nat × List Value)) (sd : Sv) (zs : List Int), i ≤ ps.n ∧ z = .int .i64 (i : Int) ∧ Gw 3 1 G sd zs.length (ivs zs) ∧ zs.length ≤ i + 1 ∧ Loc w0 (Old w0) ((g1, 44, [Sv.v ps]) :: (g3, 192, [Sv.v sd]) :: (G ++ [])) wr) (fun z _ => (ps.n - intOf z).toNat)
    case atStart => exact ⟨0, [(g10, 3, [Value.int .i64 0])], ⟨some ⟨g10, 0, none⟩, 1, 1⟩, [0], Nat.zero_le _, rfl, ⟨rfl, .inr ⟨g10, 1, [], rfl, rfl, Nat.le_refl _, by unfold maxLen; omega, rfl⟩⟩, Nat.le_refl _, HL⟩
    case round =>
      clear HL; obtain ⟨i, G, sd, zs, hi, rfl, hG, hz, HL⟩ := hrel; obtain ⟨w, rfl⟩ := eW wr; by_cases hlt : i < ps.n
      · have k5 : decide ((i : Int) < (ps.n : Int)) = true := by simp; omega
        refine Xaa ?_; intro HI; have hib : i < bs.length := by have := HLEN.out; omega
        obtain ⟨ad, hA, hE⟩ := HS.out.at_ i hib; have HE := hZ hE; have HSV : Hid (ps.v = .slice (some ad) ps.n ps.c) := hZ (by unfold Sv.v; rw [hA]); clear hE hA; generalize bs[i] = b at HE; go_upto_region 5 with fail; refine Xv ?_; refine Xgh ?_; go_upto_region 6 with fail; refine Xv ?_; refine xaa rfl _ (xaz sl42 (.tmp 12) _ rfl ad ps.n ps.c i .i64 HSV.out rfl hlt) ?_; refine X5 ?_; refine Xgi ?_; refine X5 ?_; refine xah xls rfl rfl HL ?_; clear HL; intro g5 w HL; refine Xgk ?_; clear HL; intro w HL; have CC := fun u => hZ (xps b u)
        cases hcl : xa9 b with
        | true =>
          rw [hcl] at CC; clear hcl; go_upto_region 7 with fail; refine Xv ?_; refine Xfo ?_; refine X57 ?_; intro K hK; refine xad cf108 rfl _ rfl ?_; refine Xgm ?_; clear hK K; intro w HL; refine Xbp ?_; refine X17 ?_; refine Xgn ?_; refine X5 ?_; refine Xgo ?_; refine X5p ?_; intro K hK; refine xad cf106 rfl _ rfl ?_; refine X1z ?_; (with_reducible refine (xpt g3 b.kind _ G sd zs hG (by omega) (Loc.lend (A := [_, _]) HL)).mono ?_); rintro e w ⟨r, G', sd', zs', rfl, hG', hz', R⟩; replace HL := Loc.merge (A := [_, _]) HL R; simp only [qm, qn] at HL; clear R hG; refine X5q ?_; clear hK K; refine xab rfl _ (xcg _ rfl r rfl rfl) ?_; refine X2c ?_
          cases r with
          | true =>
            go_upto_region 9 with fail; refine Xaf ?_; go_wp2_with fail; go_roundw
            case rel => exact ⟨i + 1, G', sd', zs', by omega, rfl, hG', by omega, HL.drop _ (sB _ _)⟩
            case measure => simp [intOf] <;> omega
          | false =>
            go_upto_region 8 with fail; refine X1k ?_; go_wp2_with fail; go_ret; exact ⟨2, rfl, HL.below, fun h => by cases h⟩
        | false =>
          rw [hcl] at CC; clear hcl; go_upto_region 7 with fail; refine Xv ?_; refine Xfo ?_; refine X57 ?_; intro K hK; refine xad cf108 rfl _ rfl ?_; refine Xgm ?_; clear hK K; intro w HL; refine Xbw ?_; refine X73 ?_; go_upto_region 8 with fail; refine X1k ?_; go_wp2_with fail; go_ret; exact ⟨2, rfl, HL.below, fun h => by cases h⟩
      · have k5 : decide ((i : Int) < (ps.n : Int)) = false := by simp; omega
        go_upto_region 5 with fail; refine Xv ?_; refine Xgh ?_; by_cases h0 : (0 : Int) < (sd.n : Int)
        · have k10 : decide ((0 : Int) < (sd.n : Int)) = true := by simpa using h0
          go_upto_region 10 with fail; refine Xgp ?_; refine X5 ?_; refine Xg8 ?_; refine X5 ?_; refine xaa rfl _ (xa4 _ _ rfl _ _ rfl rfl k10) ?_; refine X22 ?_; go_upto_region 11 with fail; refine X1k ?_; go_wp2_with fail; go_ret; exact ⟨2, rfl, HL.below, fun h => by cases h⟩
        · have k10 : decide ((0 : Int) < (sd.n : Int)) = false := by simp; omega
          go_upto_region 10 with fail; refine Xgp ?_; refine X5 ?_; refine Xg8 ?_; refine X5 ?_; refine xaa rfl _ (xa4 _ _ rfl _ _ rfl rfl k10) ?_; refine X22 ?_; go_upto_region 12 with fail; refine X1k ?_; go_wp2_with fail; go_ret; exact ⟨0, rfl, HL.below, fun _ => by first | exact hl | trivial⟩
  · have k1 : decide ((65536 : Int) < (ps.n : Int)) = true := by simp; omega
    go_upto_region 1 with fail; refine Xgd ?_; refine Xgf ?_; refine X91 ?_; go_upto_region 2 with fail; refine X1k ?_; go_wp2_with fail; go_ret; exact ⟨4, rfl, HL.below, fun h => by cases h⟩
end
section
variable {P : Program} {w : World} {a : Act} {o : Oper} {t t' : TypeId}
theorem xfp (x y : Operand) (ho : o.op = .binOp .quo t x y t') (n k : Nat) (hx : a.eval x = .int .i64 (n : Int)) (hy : a.eval y = .int .i64 (k : Int)) (hk : 0 < k) (hn : n ≤ 9223372036854775807) (m : Nat) (hm : n / k = m) :
    (execOp a.eval o).run P w = .ok (.value (.int .i64 (m : Int))) w := by
  have hmn : m ≤ n := by rw [← hm]; exact Nat.div_le_self _ _
  have e0 : ((n : Int) / (k : Int)) = (m : Int) := by rw [← hm]; simp
  have e : IntKind.i64.wrap ((n : Int).tdiv k) = (m : Int) := by
    rw [Int.tdiv_eq_ediv_of_nonneg (by omega), e0, IntWalk.i64_in _ (by omega)]
  have hk0 : (k : Int) ≠ 0 := by omega
  have e2 : IntKind.i64.wrap ((n : Int) / k) = (m : Int) := by
    rw [e0, IntWalk.i64_in _ (by omega)]
  unfold execOp; simp only [ho, hx, hy]; go_simp; rw [if_neg (by omega), IntWalk.i64_in _ (by omega)]
theorem xku (x y : Operand) (ho : o.op = .binOp .rem t x y t') (n : Nat) (hx : a.eval x = .int .i64 (n : Int)) (hy : a.eval y = .int .i64 4) (hn : n ≤ 9223372036854775807) (m : Nat) (hm : n % 4 = m) :
    (execOp a.eval o).run P w = .ok (.value (.int .i64 (m : Int))) w := by
  unfold execOp; simp only [ho, hx, hy]; go_simp; rw [Int.tmod_eq_emod_of_nonneg (by omega)]; omega
theorem xul (x y : Operand) (ho : o.op = .binOp .shl t x y t') (m s : Nat) (hx : a.eval x = .int .u8 (m : Int)) (hy : a.eval y = .int .i64 (s : Int)) (hs : s < 8) :
    (execOp a.eval o).run P w = .ok (.value (.int .u8 ((m * 2 ^ s % 256 : Nat) : Int))) w := by
  have h0 : (0 : Int) ≤ (s : Int) := by omega
  have h1 : (s : Int) ≤ 8 := by omega
  unfold execOp; simp only [ho, hx, hy]; go_simp; rw [IntKind.wrap_u8]
end
theorem u8_set (l : List UInt8) (q r : Nat) (hr : r < 256) : (bvs l).set q (.int .u8 (r : Int)) = bvs (l.set q (UInt8.ofNat r)) := by
  rw [← xg6]; congr 1; unfold bv; rw [UInt8.toNat_ofNat', Nat.mod_eq_of_lt hr]
theorem brv_key {w : World} {g : Nat} {b : Brv} (h : Blk w g 124 b.cells) : Rd w (some ⟨g, 1, none⟩) b.key.c := by
  have := Rd.of_blk h 1 32 (by rw [Brv.len]; decide); rwa [Brv.g_key] at this
theorem brv_val {w : World} {g : Nat} {b : Brv} (h : Blk w g 124 b.cells) : Rd w (some ⟨g, 33, none⟩) b.val.c := by
  have := Rd.of_blk h 33 32 (by rw [Brv.len]; decide); rwa [Brv.g_val] at this
theorem brv_dig {w : World} {g : Nat} {b : Brv} (h : Blk w g 124 b.cells) : Rd w (some ⟨g, 65, none⟩) b.dig.c := by
  have := Rd.of_blk h 65 32 (by rw [Brv.len]; decide); rwa [Brv.g_dig] at this
def ByT (n : Nat) (w0 : World) (m : Nat) (e : Ending) (w' : World) : Prop := ∃ (s : Sv) (l : List UInt8), e = .returned s.v ∧ Tx w' s.A s.n s.c l ∧ (∀ ad, s.A = some ad → n ≤ ad.block) ∧ l.length ≤ m ∧ Below n w0 w'
theorem Gw.newer {E z n : Nat} {G L0 L1 : List (Nat × Nat × List Value)} {sv : Sv} {xs : List Value} {w0 w : World} (h : Gw E z G sv n xs) (H : Loc w0 (Old w0) (L0 ++ (G ++ L1)) w) : ∀ x ∈ G, w0.heap.size ≤ x.1 := fun x hx => Nat.le_of_not_lt (H.own x (by simp [hx])).1
theorem xre {P : Program} {w : World} {a : Act} {o : Oper} {t t' : TypeId} (x y : Operand) (ho : o.op = .binOp .shl t x y t') (m s : Nat) (hx : a.eval x = .int .u8 (m : Int)) (hy : a.eval y = .int .i64 (s : Int)) (hs : s < 8) (r : Nat) (hr : m * 2 ^ s % 256 = r) :
    (execOp a.eval o).run P w = .ok (.value (.int .u8 (r : Int))) w := by rw [← hr]; exact xul x y ho m s hx hy hs
section
variable {w w' : World}
theorem xl5 (ps : Sv) (bs : List Brv) (w : World) (hs : BrS w ps bs) (hl : ps.n ≤ 65536) : Calls Tryz.prog 56 #[mval ps] w (ByT w.heap.size w (ps.n * 65 + 1)) := by
  have HS := hZ hs; have HLEN := hZ hs.len; have HK := hZ hs.k; clear hs; have HL := Loc.start w; obtain ⟨w0, rfl⟩ := eW w; obtain ⟨NB, hNB⟩ : ∃ NB, (ps.n + 3) / 4 = NB := ⟨_, rfl⟩; have HNB := hZ hNB; have HA1 : Hid ((ps.n : Int) + 4 = ((ps.n + 4 : Nat) : Int)) := hZ (by omega); have HA2 : Hid (((ps.n + 4 : Nat) : Int) - 1 = ((ps.n + 3 : Nat) : Int)) := hZ (by omega); clear hNB; go_enter Tryz.func56, Tryz.ntmps56; go_upto_region 0 with fail; refine X7t ?_; clear HL; intro g1 w HL; go_upto_region 1 with fail; refine Xgd ?_; refine Xgf ?_; refine Xgq ?_; refine X5 ?_; refine xaa rfl _ (xfp _ _ rfl (ps.n + 3) 4 rfl rfl (by omega) (by omega) NB HNB.out) ?_; refine X57 ?_; intro K hK; refine xo8 bt _ _ rfl HL .i64 .i64 NB NB rfl rfl (Nat.le_refl _) (by have := HNB.out; omega) ?_; clear HL; intro g14 w HL; refine Xal ?_; clear hK K; go_upto_region 2 with fail; refine Xgc ?_
  refine Xgr ?_; refine Xge ?_; refine X1h ?_; go_wp2_with fail
  go_loopw [18] (fun z wr => ∃ (i : Nat) (l : List UInt8), i ≤ ps.n ∧ z = .int .i64 (i : Int) ∧ l.length = NB ∧ Loc w0 (Old w0) ((g14, 5, bvs l) :: (g1, 44, [Sv.v ps]) :: []) wr) (fun z _ => (ps.n - intOf z).toNat)
  case atStart => exact ⟨0, List.replicate NB 0, Nat.zero_le _, rfl, by simp, HL⟩
  case round =>
    clear HL; obtain ⟨i, l, hi, rfl, hll, HL⟩ := hrel; obtain ⟨w, rfl⟩ := eW wr; by_cases hlt : i < ps.n
    · have k3 : decide ((i : Int) < (ps.n : Int)) = true := by simp; omega
      refine Xaa ?_; intro HI; have hib : i < bs.length := by have := HLEN.out; omega
      obtain ⟨ad, hA, hE⟩ := HS.out.at_ i hib; have HE := hZ hE; have HSV : Hid (ps.v = .slice (some ad) ps.n ps.c) := hZ (by unfold Sv.v; rw [hA]); have hbk := HK.out bs[i] (List.getElem_mem _); clear hE hA; generalize bs[i] = b at HE hbk; obtain ⟨q, hq⟩ : ∃ q, i / 4 = q := ⟨_, rfl⟩; obtain ⟨m, hm⟩ : ∃ m, i % 4 = m := ⟨_, rfl⟩; have hqn : q < NB := by have := HNB.out; omega
      have hm4 : m < 4 := by omega
      have HQ := hZ hq; have HM := hZ hm; refine Xgs ?_; intro H2M H6M; clear hq hm
      have hx : (bvs l)[q * 1]? = some (.int .u8 (((l.getD q 0).toNat : Nat) : Int)) := by
        have h1 : q < l.length := by omega
        rw [Nat.mul_one, xcz]; simp [List.getD, h1, bv]
      have hxl : (l.getD q 0).toNat < 256 := UInt8.toNat_lt _; have hql : q * 1 < (bvs l).length := by rw [xae]; omega
      generalize (l.getD q 0).toNat = x at hx hxl; obtain ⟨r, hr⟩ : ∃ r, b.kind * 2 ^ (6 - 2 * m) % 256 = r := ⟨_, rfl⟩; have hr256 : r < 256 := by rw [← hr]; exact Nat.mod_lt _ (by omega)
      have HR := hZ hr; clear hr; have hor : x ||| r < 256 := Nat.or_lt_two_pow (n := 8) hxl hr256; have hset : (bvs l).set (q * 1) (.int .u8 ((x ||| r : Nat) : Int)) = bvs (l.set q (UInt8.ofNat (x ||| r))) := by rw [Nat.mul_one]; exact u8_set l q _ hor
      go_upto_region 3 with fail; refine Xv ?_; refine Xgu ?_; go_upto_region 4 with fail; refine X14 ?_; refine xaa rfl _ (xaz sl42 (.tmp 16) _ rfl ad ps.n ps.c i .i64 HSV.out rfl hlt) ?_; refine X5 ?_; refine Xgi ?_; refine X5 ?_; refine xah xls rfl rfl HL ?_; clear HL; intro g5 w HL; refine X5 ?_; refine Xz ?_; refine Xgj ?_; clear HL; intro w HL; go_upto_region 5 with fail; refine rB (Loc.P HL) [14] [14] [0, 1, 2, 3, 4, 5, 6, 7, 8, 9, 10, 11, 12, 13, 14] 0 ?_; refine X3u ?_; intro HL; refine xac rfl rfl HL (fun W hW => xfp _ _ rfl i 4 rfl rfl (by omega) (by omega) q HQ.out) ?_; refine Xgv ?_; refine X5 ?_; refine xac rfl rfl HL (fun W hW => xag sc5 hW _ rfl _ _ rfl _ _ _ (.tail _ (.head _)) hx) ?_; refine X5 ?_; refine xac rfl rfl HL (fun W hW => xaf xmq _ rfl _ rfl) ?_; refine X5 ?_
      refine xac rfl rfl HL (fun W hW => xag sc30 hW _ rfl _ _ rfl _ _ _ (.head _) (Brv.g_kind _)) ?_; refine X3d ?_; refine xac rfl rfl HL (fun W hW => xku _ _ rfl i rfl rfl (by omega) m HM.out) ?_; refine X5 ?_; refine xac rfl rfl HL (fun W hW => xe2 _ _ rfl _ _ _ rfl rfl H2M.out (by omega)) ?_; refine X5 ?_; refine xac rfl rfl HL (fun W hW => xbv _ _ rfl _ _ _ rfl rfl H6M.out (by omega)) ?_; refine X5 ?_; refine xac rfl rfl HL (fun W hW => xre _ _ rfl b.kind (6 - 2 * m) rfl rfl (by omega) r HR.out) ?_; refine X5 ?_; refine xac rfl rfl HL (fun W hW => xpc _ _ rfl x r rfl rfl hxl hr256) ?_; refine Xgv ?_; refine Xk ?_; intro K hK; refine xbh sc5 _ _ rfl HL 1 g14 _ 5 _ _ _ rfl rfl rfl rfl hql hset ?_; refine X2t ?_; clear HL; intro w HL; refine Xak ?_; clear hK K; go_upto_region 6 with fail; refine Xaf ?_; go_wp2_with fail
      go_roundw
      case rel => exact ⟨i + 1, _, by omega, rfl, by rw [List.length_set]; exact hll, HL.drop _ (sB _ _)⟩
      case measure => simp [intOf] <;> omega
    · have k3 : decide ((i : Int) < (ps.n : Int)) = false := by simp; omega
      go_upto_region 3 with fail; refine Xv ?_; refine Xgu ?_; have HL0 := HL.perm (L' := (g1, 44, [Sv.v ps]) :: ([(g14, 5, bvs l ++ [])] ++ [])) (by simp only [qu]; exact (List.Perm.swap _ _ _)); clear HL; have HL := HL0; clear HL0; have hG : Gw 5 1 [(g14, 5, bvs l ++ [])] ⟨some ⟨g14, 0, none⟩, NB, NB⟩ l.length (bvs l) := ⟨by simp [bvs], .inr ⟨g14, NB, [], rfl, by rw [hll], by omega, by unfold maxLen; have := HNB.out; omega, by simp [bvs, hll]⟩⟩; go_upto_region 7 with fail; refine Xgd ?_; refine Xge ?_; refine X1h ?_; go_wp2_with fail
      go_loopw [3, 41] (fun u z wr => ∃ (j : Nat) (l : List UInt8) (G : List (Nat × Nat × List Value)) (sv : Sv), j ≤ ps.n ∧ u = Sv.v sv ∧ z = .int .i64 (j : Int) ∧ Gw 5 1 G sv l.length (bvs l) ∧ l.length ≤ NB + 64 * j ∧ Loc w0 (Old w0) ((g1, 44, [Sv.v ps]) :: (G ++ [])) wr) (fun _ z _ => (ps.n - intOf z).toNat)
      case atStart => exact ⟨0, l, _, ⟨some ⟨g14, 0, none⟩, NB, NB⟩, Nat.zero_le _, rfl, rfl, hG, by omega, HL⟩
      case round =>
        clear HL hG hll l; obtain ⟨j, l, G, sv, hj, rfl, rfl, hG, hll, HL⟩ := hrel; obtain ⟨w, rfl⟩ := eW wr; have hNBb : NB ≤ 20000 := by have := HNB.out; omega
        by_cases hlt2 : j < ps.n
        · have k8 : decide ((j : Int) < (ps.n : Int)) = true := by simp; omega
          have HI : Hid ((j : Int) + 1 = ((j + 1 : Nat) : Int)) := hZ (by omega); have hib : j < bs.length := by have := HLEN.out; omega
          obtain ⟨ad, hA, hE⟩ := HS.out.at_ j hib; have HE := hZ hE; have HSV : Hid (ps.v = .slice (some ad) ps.n ps.c) := hZ (by unfold Sv.v; rw [hA]); clear hE hA; generalize bs[j] = b at HE; go_upto_region 8 with fail; refine Xv ?_; refine Xab ?_; refine X22 ?_; go_upto_region 9 with fail; refine Xv ?_; refine xaa rfl _ (xaz sl42 (.tmp 39) _ rfl ad ps.n ps.c j .i64 HSV.out rfl hlt2) ?_; refine X5 ?_; refine Xgi ?_; refine X5 ?_; refine xah xls rfl rfl HL ?_; clear HL; intro g7 w HL; refine Xgk ?_; clear HL; intro w HL; go_upto_region 10 with fail; refine Xfm ?_; by_cases hk1 : b.kind = 1
          · have k11 : ((b.kind : Int) == 1) = true := by rw [hk1]; rfl
            go_upto_region 11 with fail; refine Xv ?_; refine Xgw ?_; refine X1c ?_; have HX := HL; replace HL := HL.drop [] (List.nil_sublist _); go_upto_region 12 with fail; refine rB (Loc.P HL) [] [3, 6] [0, 1, 2, 4, 5, 3, 6, 7] 0 ?_; refine X39 ?_; intro HL; refine Xgx ?_; refine X3f ?_; refine X5 ?_; refine Xgy ?_; refine X3f ?_; refine Xk ?_; intro K hK; refine xam sl25 el5 _ _ rfl [_, _] _ sv _ hG HX.drew rfl ⟨g7, 1, none⟩ 32 32 b.key.c rfl (brv_key (HX.blk (.head _))) (D32.cl _) (D32.c1 _) (by omega) (by omega) (by omega) ?_; clear HX HL hG; intro sv1 G1 w hG HX; simp only [qm, qn] at HX; refine Xbj ?_; intro HL; refine X3x ?_; clear hK K; intro K hK; refine xam sl25 el5 _ _ rfl [_, _] _ sv1 _ hG HX rfl ⟨g7, 33, none⟩ 32 32 b.val.c rfl (brv_val (HX.blk (.head _))) (D32.cl _) (D32.c1 _) (by omega) (by omega) (by omega) ?_; clear HX HL hG; intro sv2 G2 w hG HX
            simp only [qm, qn] at HX; refine Xbj ?_; intro HL; refine Xa0 ?_; clear hK K; go_upto_region 15 with fail; refine Xaf ?_; go_wp2_with fail; go_roundw
            case rel =>
              refine ⟨j + 1, l ++ b.key.l ++ b.val.l, G2, sv2, by omega, rfl, rfl, ?_, ?_, HX.drop _ (sB _ _)⟩
              · rw [List.length_append, List.length_append, b.key.h, b.val.h, xbz, xbz]; exact hG
              · rw [List.length_append, List.length_append, b.key.h, b.val.h]; omega
            case measure => simp [intOf] <;> omega
          · have k11 : ((b.kind : Int) == 1) = false := nB (by omega)
            by_cases hk3 : b.kind = 3
            · have k13 : ((b.kind : Int) == 3) = true := by rw [hk3]; rfl
              go_upto_region 11 with fail; refine Xv ?_; refine Xgz ?_; go_upto_region 13 with fail; refine Xv ?_; refine xaa rfl _ (xao (b := true) _ _ rfl _ _ rfl rfl k13) ?_; refine X1c ?_; go_upto_region 14 with fail; refine X14 ?_; refine Xfz ?_; refine X27 ?_; refine X57 ?_; intro K hK; refine xam sl25 el5 _ _ rfl [_, _] _ sv _ hG HL rfl ⟨g7, 65, none⟩ 32 32 b.dig.c rfl (brv_dig (HL.blk (.head _))) (D32.cl _) (D32.c1 _) (by omega) (by omega) (by omega) ?_; clear HL hG; intro sv1 G1 w hG HL; simp only [qm, qn] at HL; refine Xal ?_; clear hK K; go_upto_region 15 with fail; refine Xaf ?_; go_wp2_with fail; go_roundw
              case rel =>
                refine ⟨j + 1, l ++ b.dig.l, G1, sv1, by omega, rfl, rfl, ?_, ?_, HL.drop _ (sB _ _)⟩
                · rw [List.length_append, b.dig.h, xbz]; exact hG
                · rw [List.length_append, b.dig.h]; omega
              case measure => simp [intOf] <;> omega
            · have k13 : ((b.kind : Int) == 3) = false := nB (by omega)
              go_upto_region 11 with fail; refine Xv ?_; refine Xgz ?_; go_upto_region 13 with fail; refine Xv ?_; refine xaa rfl _ (xao (b := false) _ _ rfl _ _ rfl rfl k13) ?_; refine X1c ?_; go_upto_region 15 with fail; refine Xaf ?_; go_wp2_with fail; go_roundw
              case rel => exact ⟨j + 1, l, G, sv, by omega, rfl, rfl, hG, by omega, HL.drop _ (sB _ _)⟩
              case measure => simp [intOf] <;> omega
        · have k8 : decide ((j : Int) < (ps.n : Int)) = false := by simp; omega
          go_upto_region 8 with fail; refine Xv ?_; refine Xab ?_; refine X22 ?_; go_upto_region 16 with fail; refine X6x ?_; go_wp2_with fail; go_ret; exact ⟨sv, l, rfl, hG.tx (L0 := [_]) HL, hG.fars (hG.newer (L0 := [_]) HL), by have := HNB.out; omega, HL.below⟩
end
theorem xum {P : Program} {w : World} {a : Act} {o : Oper} {t t' : TypeId} (x y : Operand) (ho : o.op = .binOp .shr t x y t') (m s : Nat) (hx : a.eval x = .int .u8 (m : Int)) (hy : a.eval y = .int .i64 (s : Int)) (hs : s < 8) (r : Nat) (hr : m / 2 ^ s = r) :
    (execOp a.eval o).run P w = .ok (.value (.int .u8 (r : Int))) w := by
  subst hr; have h0 : (0 : Int) ≤ (s : Int) := by omega
  have h1 : (s : Int) ≤ 8 := by omega
  unfold execOp; simp only [ho, hx, hy]; go_simp
theorem xg0 {P : Program} {w : World} {a : Act} {o : Oper} {t e : TypeId} (ht : P.underlying t = some (.slice e)) (x : Operand) (ho : o.op = .call { callee := .builtin .len, args := #[x], argTypes := #[t] }) (sv : Sv) (n : Nat) (hx : a.eval x = sv.v) (hn : sv.n = n) :
    (execOp a.eval o).run P w = .ok (.value (.int .i64 (n : Int))) w := by
  subst hn; exact xa8 ht x ho _ _ _ hx
abbrev kvs (ks : List Nat) : List Value := ks.map fun (k : Nat) => Value.int .u8 (k : Int)
def lenV : Value → Nat
  | .slice _ n _ => n
  | _ => 0
def KiO (n : Nat) (w0 : World) (nl : Nat) (e : Ending) (w' : World) : Prop := ∃ (sv : Sv) (ks : List Nat) (m : Nat), e = .returned (.tuple #[sv.v, .int .i64 (m : Int)]) ∧ Below n w0 w' ∧ Rd w' sv.A (kvs ks) ∧ ks.length = sv.n ∧ sv.n ≤ sv.c ∧ (∀ k ∈ ks, k ≤ 3) ∧ ks.length ≤ 65536 ∧ m ≤ nl ∧ ∀ ad, sv.A = some ad → n ≤ ad.block
section
variable {w w' : World}
theorem xun (A : Option Addr) (n c : Nat) (l : List UInt8) (w : World) (h : Tx w A n c l) (hn : n ≤ 140737488351232) : Calls Tryz.prog 51 #[.slice A n c] w (KiO w.heap.size w n) := by
  have HT := hZ h; have HLEN := hZ h.len; clear h; have HL := Loc.start w; obtain ⟨w0, rfl⟩ := eW w; go_enter Tryz.func51, Tryz.ntmps51; go_upto_region 0 with fail; refine X32 ?_; go_upto_region 1 with fail; refine X1k ?_; go_upto_region 2 with fail; refine X8h ?_; intro K hK; refine Xgg ?_; clear HL; intro g8 w HL; refine Xa6 ?_; clear hK K; refine xah zr192 rfl rfl HL ?_; clear HL; intro g5 w HL; refine X5 ?_; refine Xga ?_; refine X3j ?_; clear HL; intro w HL; go_wp2_with fail
  go_loopw [4, 5] (fun u p wr => ∃ (gd : Nat) (sd : Sv) (zs : List Int) (Gd : List (Nat × Nat × List Value)) (ks : List Nat) (sv : Sv) (Go : List (Nat × Nat × List Value)), u = Sv.v sv ∧ p = .pointer (some ⟨gd, 0, none⟩) ∧ Gw 30 1 Go sv ks.length (kvs ks) ∧ Gw 3 1 Gd sd zs.length (ivs zs) ∧ zs.length ≤ ks.length + 1 ∧ ks.length ≤ 65536 ∧ (ks.length + 3) / 4 ≤ n ∧ (∀ k ∈ ks, k ≤ 3) ∧
    Loc w0 (Old w0) (Go ++ ((gd, 192, [Sv.v sd]) :: (Gd ++ []))) wr) (fun u _ _ => 65536 - lenV u)
  case atStart => exact ⟨g5, ⟨some ⟨g8, 0, none⟩, 1, 1⟩, [0], [(g8, 3, [Value.int .i64 0])], [], Sv.nil, [], rfl, rfl, Gw.nil 30 1, ⟨rfl, .inr ⟨g8, 1, [], rfl, rfl, Nat.le_refl _, by unfold maxLen; omega, rfl⟩⟩, Nat.le_refl _, Nat.zero_le _, Nat.zero_le _, (fun k hk => by cases hk), HL⟩
  case round =>
    clear HL; obtain ⟨gd, sd, zs, Gd, ks, sv, Go, rfl, rfl, hGo, hGd, hzk, hk64, hkn, hk3, HL⟩ := hrel; obtain ⟨w, rfl⟩ := eW wr; have hmd : (gd, 192, [Sv.v sd]) ∈ Go ++ ((gd, 192, [Sv.v sd]) :: (Gd ++ [])) := List.mem_append.2 (.inr (.head _)); have hsvn := hGo.len; obtain ⟨nk, hnk⟩ : ∃ nk, ks.length = nk := ⟨_, rfl⟩; rw [hnk] at hsvn hGo hzk hk64 hkn; have HNK := hZ hnk; have HSVN := hZ hsvn; clear hnk hsvn; by_cases h0 : (0 : Int) < (sd.n : Int)
    · have k3 : decide ((0 : Int) < (sd.n : Int)) = true := by simpa using h0
      clear h0; go_upto_region 3 with fail; refine Xh0 ?_; refine X5 ?_; refine Xg8 ?_; refine X5 ?_; refine xaa rfl _ (xa4 _ _ rfl _ _ rfl rfl k3) ?_; refine X22 ?_; go_upto_region 4 with fail; refine X14 ?_; refine xaa rfl _ (xg0 Tryz.underlying118 _ rfl sv nk rfl HSVN.out) ?_; refine X1c ?_; obtain ⟨q, hq⟩ : ∃ q, nk / 4 = q := ⟨_, rfl⟩; have HQ := hZ hq; have hqq : 4 * q ≤ nk ∧ nk < 4 * q + 4 := by omega
      clear hq; by_cases hqn : n ≤ q
      · have k5 : decide ((n : Int) ≤ (q : Int)) = true := by simp; omega
        go_upto_region 5 with fail; refine X14 ?_; refine Xh1 ?_; refine X17 ?_; refine X5u ?_; refine X5 ?_; refine Xh2 ?_; refine X2g ?_; refine X2b ?_; go_upto_region 6 with fail; refine X32 ?_; go_wp2_with fail; go_ret2; exact ⟨Sv.nil, [], 0, rfl, HL.below, Rd.nil _ _, rfl, Nat.le_refl _, fun k hk => (by cases hk), Nat.zero_le _, Nat.zero_le _, fun ad e => (by cases e)⟩
      · have k5 : decide ((n : Int) ≤ (q : Int)) = false := by simp; omega
        by_cases h64 : 65536 ≤ nk
        · have k7 : decide ((65536 : Int) ≤ (nk : Int)) = true := by simp; omega
          go_upto_region 5 with fail; refine X14 ?_; refine Xh1 ?_; refine X17 ?_; refine X5u ?_; refine X5 ?_; refine Xh2 ?_; refine X1o ?_; refine xab rfl _ (xc3 _ _ rfl _ _ rfl rfl k7) ?_; refine X2c ?_; go_upto_region 6 with fail; refine X32 ?_; go_wp2_with fail; go_ret2; exact ⟨Sv.nil, [], 0, rfl, HL.below, Rd.nil _ _, rfl, Nat.le_refl _, fun k hk => (by cases hk), Nat.zero_le _, Nat.zero_le _, fun ad e => (by cases e)⟩
        · have k7 : decide ((65536 : Int) ≤ (nk : Int)) = false := by simp; omega
          go_upto_region 5 with fail; refine X14 ?_; refine Xh1 ?_; refine X17 ?_; refine X5u ?_; refine X5 ?_; refine Xh2 ?_; refine X1o ?_; refine xab rfl _ (xc3 _ _ rfl _ _ rfl rfl k7) ?_; refine X2c ?_; obtain ⟨m, hm⟩ : ∃ m, nk % 4 = m := ⟨_, rfl⟩; have hm4 : m < 4 := by omega
          have HM := hZ hm; clear hm; refine Xgs ?_; intro H2M H6M; obtain ⟨ad, hA, hE⟩ := xkg HT.out q (by omega); refine Xh3 ?_; intro HSV; have hDq : Old w0 ad.block := by have := World.block_lt_of_cell? _ _ hE; rwa [show (ad.add q).block = ad.block by unfold Addr.add; split <;> rfl] at this
          rw [show q = q * 1 by omega] at hE; have HE := hZ hE; have hxl : (l.getD (q * 1) 0).toNat < 256 := UInt8.toNat_lt _; clear hA hE; generalize (l.getD (q * 1) 0).toNat = x at HE hxl; obtain ⟨y, hy⟩ : ∃ y, x / 2 ^ (6 - 2 * m) = y := ⟨_, rfl⟩; have hy256 : y < 256 := by rw [← hy]; exact Nat.lt_of_le_of_lt (Nat.div_le_self _ _) hxl
          have HY := hZ hy; clear hy; have hk4 : y &&& 3 ≤ 3 := Nat.and_le_right; go_upto_region 7 with fail; refine X1b ?_; refine Xh1 ?_; refine X5 ?_; refine xaa rfl _ (xaz sl25 (.tmp 23) _ rfl ad n c q .i64 HSV.out rfl (by omega)) ?_; refine X5 ?_; refine xaa rfl _ (xcv sc5 HL _ rfl (ad.add (q * 1)) rfl _ HE.out) ?_; refine X17 ?_; refine xaa rfl _ (xku _ _ rfl nk rfl rfl (by omega) m HM.out) ?_; refine X5 ?_; refine xaa rfl _ (xe2 _ _ rfl _ _ _ rfl rfl H2M.out (by omega)) ?_; refine X5 ?_; refine xaa rfl _ (xbv _ _ rfl _ _ _ rfl rfl H6M.out (by omega)) ?_; refine X5 ?_; refine xaa rfl _ (xum _ _ rfl x (6 - 2 * m) rfl rfl (by omega) y HY.out) ?_; refine X5 ?_; refine xaa rfl _ (xly _ _ rfl y 3 rfl rfl hy256 (by omega)) ?_; refine X1c ?_; generalize y &&& 3 = kk at hk4 ⊢
          go_upto_region 8 with fail; refine X1y ?_; intro K hK; refine xad cf106 rfl _ rfl ?_; refine X1z ?_; (with_reducible refine (xpt gd kk _ Gd sd zs hGd (by omega) (Loc.lend (A := Go) HL)).mono ?_); rintro e w ⟨r, Gd', sd', zs', rfl, hGd', hz', R⟩; replace HL := Loc.merge (A := Go) HL R; clear R hGd hmd; refine X5q ?_; clear hK K; refine xaa rfl _ (xcg _ rfl r rfl rfl) ?_; refine X22 ?_
          cases r with
          | true =>
            go_upto_region 10 with fail; refine X2n ?_; intro K hK; refine xds sl118 el30 1 _ rfl HL [.int .u8 (kk : Int)] (by simp [Value.oneCell']) rfl (by omega) (by omega) (by simp [Act.eval]) ?_; clear HL; intro g39 w HL; refine Xa7 ?_; clear hK K; intro K hK; refine xam sl118 el30 _ _ rfl [_] _ sv _ hGo HL rfl ⟨g39, 0, none⟩ 1 1 [.int .u8 (kk : Int)] rfl (Rd.of_blk0 (es := []) (by simpa using HL.blk (.head _))) rfl (by simp [Value.oneCell']) (by omega) (by omega) (by omega) ?_; clear HL hGo; intro sv' Go' w hGo HL; simp only [qm, qn] at HL; refine Xal ?_; clear hK K; have HL0 := HL.drop (Go' ++ ((gd, 192, [Sv.v sd']) :: (Gd' ++ []))) (sB _ _); clear HL; have HL := HL0; clear HL0; have hmd' : (gd, 192, [Sv.v sd']) ∈ Go' ++ ((gd, 192, [Sv.v sd']) :: (Gd' ++ [])) := List.mem_append.2 (.inr (.head _)); go_upto_region 11 with fail; refine Xv ?_
            refine xaa rfl _ (xag xjy HL _ rfl _ _ rfl _ _ _ hmd' rfl) ?_; refine X22 ?_; go_upto_region 12 with fail; refine Xv ?_; refine xah zr192 rfl rfl HL ?_; clear HL; intro g5 w HL; refine X5 ?_; refine Xga ?_; refine X3j ?_; clear HL; intro w HL; go_wp2_with fail; go_roundw
            case rel =>
              refine ⟨_, sd', zs', Gd', ks ++ [kk], sv', Go', rfl, rfl, ?_, hGd', ?_, ?_, ?_, ?_, ?_⟩
              · rw [List.length_append, HNK.out]
                have e : kvs (ks ++ [kk]) = kvs ks ++ [.int .u8 (kk : Int)] := by simp [kvs]
                rw [e]; exact hGo
              · rw [List.length_append, HNK.out]; simp only [qr, qs]; omega
              · rw [List.length_append, HNK.out]; simp only [qr, qs]; omega
              · rw [List.length_append, HNK.out]; simp only [qr, qs]; omega
              · intro k hk
                rcases List.mem_append.1 hk with hk | hk
                · exact hk3 k hk
                · rw [List.mem_singleton.1 hk]; exact hk4
              · exact (HL.drop (_ :: (Go' ++ (Gd' ++ []))) (List.Sublist.cons_cons _ (List.Sublist.append (List.Sublist.refl _) (sB _ _)))).perm List.perm_middle
            case measure =>
              have h1 := hGo.len; have h2 := HSVN.out; show 65536 - sv'.n < 65536 - sv.n; omega
          | false =>
            go_upto_region 9 with fail; refine X32 ?_; go_wp2_with fail; go_ret2; exact ⟨Sv.nil, [], 0, rfl, HL.below, Rd.nil _ _, rfl, Nat.le_refl _, fun k hk => (by cases hk), Nat.zero_le _, Nat.zero_le _, fun ad e => (by cases e)⟩
    · have k3 : decide ((0 : Int) < (sd.n : Int)) = false := by simp; omega
      clear h0; have HA1 : Hid ((nk : Int) + 4 = ((nk + 4 : Nat) : Int)) := hZ (by omega); have HA2 : Hid (((nk + 4 : Nat) : Int) - 1 = ((nk + 3 : Nat) : Int)) := hZ (by omega); go_upto_region 3 with fail; refine Xh0 ?_; refine X5 ?_; refine Xg8 ?_; refine X5 ?_; refine xaa rfl _ (xa4 _ _ rfl _ _ rfl rfl k3) ?_; refine X22 ?_; go_upto_region 13 with fail; refine X1b ?_; refine xaa rfl _ (xg0 Tryz.underlying118 _ rfl sv nk rfl HSVN.out) ?_; refine X5 ?_; refine Xgq ?_; refine X5 ?_; refine xaa rfl _ (xfp _ _ rfl (nk + 3) 4 rfl rfl (by omega) (by omega) ((nk + 3) / 4) rfl) ?_; refine X1j ?_; go_wp2_with fail; go_ret2; exact ⟨sv, ks, (nk + 3) / 4, rfl, HL.below, hGo.rd (L0 := []) HL, by rw [HNK.out, HSVN.out], hGo.cap.1, hk3, by rw [HNK.out]; exact hk64, hkn, hGo.fars (hGo.newer (L0 := []) HL)⟩
end
def MeO (n : Nat) (w0 : World) (e : Ending) (w' : World) : Prop := ∃ (s : Sv) (l : List UInt8) (er : Int), e = .returned (.tuple #[s.v, .int .i64 er]) ∧ Below n w0 w' ∧ Tx w' s.A s.n s.c l ∧ (∀ ad, s.A = some ad → n ≤ ad.block) ∧ l.length ≤ 5000000
def MdO (n : Nat) (w0 : World) (e : Ending) (w' : World) : Prop := ∃ (ps : Sv) (bs : List Brv) (er : Int), e = .returned (.tuple #[mval ps, .int .i64 er]) ∧ Below n w0 w' ∧ BrS w' ps bs ∧ (∀ ad, ps.A = some ad → n ≤ ad.block) ∧ ps.n ≤ 65536
theorem xkv (st : Option (List UInt8)) : (xbw st 32).length = 32 ∨ xbw st 32 = [] := by
  cases st with
  | none => exact .inr rfl
  | some l =>
    rcases Nat.lt_or_ge l.length 32 with h | h
    · exact .inr (xif (k := 32) h)
    · refine .inl ?_
      rw [show xbw (some l) 32 = l.take 32 from xdd (k := 32) h, List.length_take]; omega
theorem xpu (b : Brv) (t : List UInt8) (ht : t.length = 32 ∨ t = []) : ∃ b' : Brv, splice b.cells 1 (bvs (t.take 32)) = b'.cells ∧ b'.kind = b.kind := by
  rcases ht with h | rfl
  · refine ⟨⟨b.kind, ⟨t, h⟩, b.val, b.dig⟩, ?_, rfl⟩
    rw [List.take_of_length_le (by omega)]; exact Brv.s_key b ⟨t, h⟩
  · exact ⟨b, by simp [bvs, xcq], rfl⟩
theorem xpv (b : Brv) (t : List UInt8) (ht : t.length = 32 ∨ t = []) : ∃ b' : Brv, splice b.cells 33 (bvs (t.take 32)) = b'.cells ∧ b'.kind = b.kind := by
  rcases ht with h | rfl
  · refine ⟨⟨b.kind, b.key, ⟨t, h⟩, b.dig⟩, ?_, rfl⟩
    rw [List.take_of_length_le (by omega)]; exact Brv.s_val b ⟨t, h⟩
  · exact ⟨b, by simp [bvs, xcq], rfl⟩
theorem xpw (b : Brv) (t : List UInt8) (ht : t.length = 32 ∨ t = []) : ∃ b' : Brv, splice b.cells 65 (bvs (t.take 32)) = b'.cells ∧ b'.kind = b.kind := by
  rcases ht with h | rfl
  · refine ⟨⟨b.kind, b.key, b.val, ⟨t, h⟩⟩, ?_, rfl⟩
    rw [List.take_of_length_le (by omega)]; exact Brv.s_dig b ⟨t, h⟩
  · exact ⟨b, by simp [bvs, xcq], rfl⟩
theorem BrS.of {w w0 : World} {D : Nat → Prop} {L0 L1 G : List (Nat × Nat × List Value)} {sp : Sv} {bs : List Brv} (hG : Gw 124 97 G sp bs.length (bs.flatMap Brv.cells)) (H : Loc w0 D (L0 ++ (G ++ L1)) w) (hk : ∀ b ∈ bs, b.kind < 256) : BrS w sp bs := ⟨hG.rd H, hG.len.symm, hG.cap.1, hk⟩
section
variable {w w' : World}
theorem xnl (ps : Sv) (bs : List Brv) (w : World) (hs : BrS w ps bs) : Calls Tryz.prog 112 #[mval ps] w (MeO w.heap.size w) := by
  have HS := hZ hs; clear hs; have HL := Loc.start w; obtain ⟨w0, rfl⟩ := eW w; go_enter Tryz.func112, Tryz.ntmps112; go_upto_region 0 with fail; refine X7s ?_; clear HL; intro g1 w HL; refine X1j ?_; go_upto_region 1 with fail; refine Xv ?_; refine Xh4 ?_; refine X57 ?_; intro K hK; refine xad cf55 rfl _ rfl ?_; refine X1z ?_; (with_reducible refine (xiz ps bs _ (HS.out.below HL.below)).mono ?_); rintro e w ⟨er, rfl, hb, her⟩; replace HL := HL.next hb; clear hb; refine X2q ?_; clear hK K; by_cases h0 : er = 0
  · have hl := her h0
    have k2 : (er == 0) = true := by rw [h0]; rfl
    clear h0 her; go_upto_region 2 with fail; refine X14 ?_; refine xaa rfl _ (xbi (b := false) _ _ rfl _ _ rfl rfl k2) ?_; refine X22 ?_; go_upto_region 4 with fail; refine Xv ?_; refine Xh4 ?_; refine X57 ?_; intro K hK; refine xad cf56 rfl _ rfl ?_; refine X1z ?_; (with_reducible refine (xl5 ps bs _ (HS.out.below HL.below) hl).mono ?_); rintro e w ⟨s, l, rfl, ht, hf, hlen, hb⟩; have hsz := HL.fr.size; replace HL := HL.next hb; clear hb; refine X21 ?_; clear hK K; refine X1j ?_; go_wp2_with fail; go_ret2; exact ⟨s, l, 0, rfl, HL.below, ht, fun ad e => Nat.le_trans hsz (hf ad e), by omega⟩
  · have k2 : (er == 0) = false := nB h0
    clear h0 her; go_upto_region 2 with fail; refine X14 ?_; refine xaa rfl _ (xbi (b := true) _ _ rfl _ _ rfl rfl k2) ?_; refine X22 ?_; go_upto_region 3 with fail; refine X3s ?_; go_wp2_with fail; go_ret2; exact ⟨Sv.nil, [], er, rfl, HL.below, xil _, fun ad e => (by cases e), Nat.zero_le _⟩
theorem Loc.dropU {D : Nat → Prop} {w0 w : World} (L0 : List (Nat × Nat × List Value)) {G2 G3 : List (Nat × Nat × List Value)} (H : Loc w0 D (L0 ++ (G2 ++ (G3 ++ []))) w) : Loc w0 D (L0 ++ (G2 ++ [])) w :=
  H.drop _ (List.Sublist.append (.refl _) (List.Sublist.append (.refl _) (List.nil_sublist _)))
theorem xnm (A : Option Addr) (n c : Nat) (l : List UInt8) (w : World) (h : Tx w A n c l) (hn : n ≤ 140737488351232) : Calls Tryz.prog 9 #[.slice A n c] w (MdO w.heap.size w) := by
  have HT := hZ h; have HTL := hZ h.len; clear h; have HL := Loc.start w; obtain ⟨w0, rfl⟩ := eW w; go_enter Tryz.func9, Tryz.ntmps9; go_upto_region 0 with fail; refine Xv ?_; refine xah zr44 rfl rfl HL ?_; clear HL; intro g2 w HL; refine X1c ?_; obtain ⟨wA, rfl⟩ := eW w; have hg2 := (HL.blk (.head _)).lt; go_upto_region 1 with fail; refine X1y ?_; intro K hK; refine xad cf51 rfl _ rfl ?_; refine X1z ?_; (with_reducible refine (xun A n c l _ (HT.out.below HL.below) hn).mono ?_); rintro e w ⟨sk, ks, m, rfl, hb, hkr, hkl, hkc, hk3, hk64, hmn, hkf⟩; replace HL := HL.next hb; clear hb; refine X6o ?_; clear hK K; obtain ⟨wB, rfl⟩ := eW w; have hcut := (Lft.cut (HT.out.below HL.below) m hmn); have hB0 : ∀ q, some (l.drop m) = some q → q.length ≤ 140737488351232 := fun q e => by cases e; rw [List.length_drop]; have := HTL.out; omega
  go_upto_region 2 with fail; refine X1b ?_; refine xaa rfl _ (xb3 sl25 (.tmp 16) _ rfl A n c m .i64 rfl rfl hmn) ?_; refine X57 ?_; intro K hK; refine Xan ?_; (with_reducible refine (xsc (cutA A c m 1) (n - m) (c - m) (l.drop m) _ hcut.rd hcut.len (by omega)).mono ?_); rintro e w ⟨gr, A1, c1, rfl, M⟩; have hkr2 := hkr.below M.bel; have hgr : wB.heap.size ≤ gr := M.new; have hszB := M.bel.size; obtain ⟨H1, HL1, hR⟩ := HL.reader M; clear HL M; have HL := HL1; clear HL1; obtain ⟨w1, rfl⟩ := eW w; refine Xaq ?_; intro HBK HOD
  have hKD : ∀ ad, sk.A = some ad → ad.block < wB.heap.size → Rest w1 [(gr, 195, [Value.bool true, Value.bool false, Value.slice A1 (l.drop m).length c1]), (g2, 44, [Value.slice none 0 0])] ad.block := fun ad e h2 => ⟨Nat.lt_of_lt_of_le h2 hszB, fun y hy e2 => by
    rcases List.mem_cons.1 hy with rfl | hy
    · have e3 : gr = ad.block := e2; omega
    · rw [List.mem_singleton.1 hy] at e2
      have e3 : g2 = ad.block := e2; have := hkf ad e
      omega⟩
  generalize Rest w1 _ = D1 at HL hR HBK HOD hKD; generalize hcs : [Value.bool true, Value.bool false, Value.slice A1 (l.drop m).length c1] = cs0 at HL hR; clear H1 hcs hcut; refine X2q ?_; clear hK K; have hkr1 : Rd w1 sk.A (kvs ks) := hkr2
  have hkD : ∀ (L : List (Nat × Nat × List Value)) (W : World), Loc w1 D1 L W → Rd W sk.A (kvs ks) := by
    intro L W hW hlen; obtain ⟨ad, e, hc⟩ := hkr hlen
    have hlt : ad.block < wB.heap.size := by
      have := World.block_lt_of_cell? _ _ (hc 0 _ (List.getElem?_eq_getElem hlen)); rwa [show (ad.add 0).block = ad.block by unfold Addr.add; split <;> rfl] at this
    exact hW.rd (fun ad' e' => by rw [e] at e'; cases e'; exact hKD ad e hlt) hkr1 hlen
  have HKL := hZ hkl; clear hkl hkr hkr2 hKD hkf hkr1; go_upto_region 3 with fail; refine Xv ?_; refine xah zr44 rfl rfl HL ?_; clear HL; intro g7 w HL; refine X22 ?_; go_upto_region 4 with fail; refine X14 ?_; refine Xh5 ?_; refine X1h ?_; generalize hst0 : some (l.drop m) = st0 at hR hB0; clear hst0; go_wp2_with fail
  go_loopw [22] (fun z wr => ∃ (i : Nat) (bs : List Brv) (st : Option (List UInt8)) (cs : List Value) (G : List (Nat × Nat × List Value)) (sp : Sv), i ≤ sk.n ∧ z = .int .i64 (i : Int) ∧ bs.length = i ∧ (∀ b ∈ bs, b.kind < 256) ∧ RdL w1 D1 cs st ∧ StS st ∧ Gw 124 97 G sp i (bs.flatMap Brv.cells) ∧
    Loc w1 D1 ((g7, 44, [Sv.v sp]) :: (gr, 195, cs) :: (g2, 44, [Sv.v Sv.nil]) :: (G ++ [])) wr) (fun z _ => (sk.n - intOf z).toNat)
  case atStart => exact ⟨0, [], st0, cs0, [], Sv.nil, Nat.zero_le _, rfl, rfl, fun b hb => (by cases hb), hR, hB0, Gw.nil 124 97, HL⟩
  case round =>
    clear HL hR hB0; obtain ⟨i, bs, st, cs, G, sp, hi, rfl, hbl, hbs, hR, hST, hG, HL⟩ := hrel; obtain ⟨w, rfl⟩ := eW wr; have HBL := hZ hbl; clear hbl; have hk64' : sk.n ≤ 65536 := by have := HKL.out; omega
    by_cases hlt : i < sk.n
    · have k5 : decide ((i : Int) < (sk.n : Int)) = true := by simp; omega
      refine Xaa ?_; intro HI; have hik : i < ks.length := by have := HKL.out; omega
      have hk := hk3 ks[i] (List.getElem_mem _); obtain ⟨ad, hA, _⟩ := (hkD _ _ HL) (by simp only [kvs, List.length_map]; omega); have HSV : Hid (sk.v = .slice (some ad) sk.n sk.c) := hZ (by unfold Sv.v; rw [hA]); have hrda : ∀ (L : List (Nat × Nat × List Value)) (W : World), Loc w1 D1 L W → Rd W (some ad) (kvs ks) := fun L W hW => hA ▸ hkD L W hW
      have hx : (kvs ks)[i * 1]? = some (.int .u8 ((ks[i] : Nat) : Int)) := by rw [Nat.mul_one]; simp [kvs, hik]
      clear hA; generalize ks[i] = k at hk hx; go_upto_region 5 with fail; refine Xv ?_; refine Xgh ?_; go_upto_region 6 with fail; refine Xv ?_; refine xaa rfl _ (xaz sl118 (.tmp 20) _ rfl ad sk.n sk.c i .i64 HSV.out rfl hlt) ?_; refine X5 ?_; refine xaa rfl _ (xex sc30 _ rfl ad (i * 1) _ _ rfl (hrda _ _ HL) hx) ?_; refine X1c ?_; go_upto_region 7 with fail; refine X14 ?_; refine Xfs ?_; refine xah xls rfl rfl HL ?_; clear HL; intro g10 w HL; refine Xgk ?_; clear HL; intro w HL; go_upto_region 8 with fail; refine X14 ?_; refine X10 ?_; have hbk : (⟨k, D32.z, D32.z, D32.z⟩ : Brv).kind = k := rfl; generalize (⟨k, D32.z, D32.z, D32.z⟩ : Brv) = b at HL hbk ⊢; by_cases hk1 : k = 1
      · have k9 : ((k : Int) == 1) = true := by rw [hk1]; rfl
        go_upto_region 9 with fail; refine Xv ?_; refine Xh6 ?_; refine X1c ?_; have HX := HL; replace HL := HL.drop [] (List.nil_sublist _); have hST1 : ∀ q, st = some q → q.length ≤ 140737488351232 := hST; obtain ⟨b', hput, hbk'⟩ := xpu b (xbw st 32) (xkv st); go_upto_region 10 with fail; refine Xh7 ?_; intro HL; refine Xgx ?_; refine X3f ?_; refine Xb7 ?_; intro K hK; refine Xax ?_; refine Xh8 ?_; rintro e w ⟨Gt, sT, cs', rfl, hGt, hR', HX'⟩; replace HL := HX'.drop [] (List.nil_sublist _); simp only [qg, qh, qm, qo, qn] at HX'; refine X6m ?_; clear hK K; intro K hK; refine xf3 bt _ _ rfl HX' 0 g10 1 32 32 sT.A sT.n sT.c rfl rfl 124 b.cells _ (xbw st 32) rfl (hGt.rd (L0 := _ :: _ :: _ :: _ :: G) (L1 := []) HX') hGt.len.symm (by rw [Brv.len]; decide) hput ?_; clear HL HX; intro w HX; refine Xbj ?_; intro HL; refine Xbk ?_; clear hK K; clear HL
        have HL := Loc.dropU [_, _, _, _] HX; clear HX HX' hR hput; have hR := hR'; clear hR'; simp only [qm, qn, qg] at HL; replace hST := StS.take hST 32; clear hST1; generalize hst2 : xbt st 32 = st2 at hR hST; clear hst2 hGt; rw [← hbk'] at hbk; clear hbk'; obtain ⟨b, rfl⟩ : ∃ b, b = b' := ⟨_, rfl⟩; obtain ⟨st, rfl⟩ : ∃ st, st = st2 := ⟨_, rfl⟩; have HX := HL; replace HL := HL.drop [] (List.nil_sublist _); have hST1 : ∀ q, st = some q → q.length ≤ 140737488351232 := hST; obtain ⟨b', hput, hbk'⟩ := xpv b (xbw st 32) (xkv st); go_upto_region 11 with fail; refine Xh7 ?_; intro HL; refine Xgy ?_; refine X3f ?_; refine Xb7 ?_; intro K hK; refine Xax ?_; refine Xh8 ?_; rintro e w ⟨Gt, sT, cs', rfl, hGt, hR', HX'⟩; replace HL := HX'.drop [] (List.nil_sublist _); simp only [qg, qh, qm, qo, qn] at HX'; refine X6m ?_; clear hK K; intro K hK
        refine xf3 bt _ _ rfl HX' 0 g10 33 32 32 sT.A sT.n sT.c rfl rfl 124 b.cells _ (xbw st 32) rfl (hGt.rd (L0 := _ :: _ :: _ :: _ :: G) (L1 := []) HX') hGt.len.symm (by rw [Brv.len]; decide) hput ?_; clear HL HX; intro w HX; refine Xbj ?_; intro HL; refine Xbk ?_; clear hK K; clear HL; have HL := Loc.dropU [_, _, _, _] HX; clear HX HX' hR hput; have hR := hR'; clear hR'; simp only [qm, qn, qg] at HL; replace hST := StS.take hST 32; clear hST1; generalize hst2 : xbt st 32 = st2 at hR hST; clear hst2 hGt; rw [← hbk'] at hbk; clear hbk'; obtain ⟨b, rfl⟩ : ∃ b, b = b' := ⟨_, rfl⟩; go_upto_region 14 with fail; refine Xgc ?_; refine Xgr ?_; refine X5 ?_; refine Xfp ?_; refine Xh9 ?_; clear HL; intro g51 w HL; refine X57 ?_; intro K hK; refine Xha ?_; clear HL hG; intro sp' G' w hG HL; simp only [qm, qn] at HL; refine Xa6 ?_; clear hK K; refine Xgb ?_; refine Xhb ?_
        refine X2y ?_; clear HL; intro w HL; go_upto_region 15 with fail; refine Xaf ?_; go_wp2_with fail; go_roundw
        case rel =>
          refine ⟨i + 1, bs ++ [b], _, _, G', sp', by omega, rfl, by rw [List.length_append, HBL.out]; rfl, ?_, hR, hST, ?_, (HL.drop _ (sB _ _)).drop _ (sB _ _)⟩
          · intro y hy
            rcases List.mem_append.1 hy with hy | hy
            · exact hbs y hy
            · rw [List.mem_singleton.1 hy, hbk]; omega
          · rw [List.flatMap_append]
            simpa using hG
        case measure => simp [intOf] <;> omega
      · have k9 : ((k : Int) == 1) = false := nB (by omega)
        by_cases hk33 : k = 3
        · have k12 : ((k : Int) == 3) = true := by rw [hk33]; rfl
          go_upto_region 9 with fail; refine Xhd ?_; go_upto_region 12 with fail; refine Xv ?_; refine xaa rfl _ (xao (b := true) _ _ rfl _ _ rfl rfl k12) ?_; refine X1c ?_; have HX := HL; replace HL := HL.drop [] (List.nil_sublist _); have hST1 : ∀ q, st = some q → q.length ≤ 140737488351232 := hST; obtain ⟨b', hput, hbk'⟩ := xpw b (xbw st 32) (xkv st); go_upto_region 13 with fail; refine Xh7 ?_; intro HL; refine xac rfl rfl HL (fun W hW => xaf xry _ rfl _ rfl) ?_; refine X3f ?_; refine Xb7 ?_; intro K hK; refine Xax ?_; refine Xh8 ?_; rintro e w ⟨Gt, sT, cs', rfl, hGt, hR', HX'⟩; replace HL := HX'.drop [] (List.nil_sublist _); simp only [qg, qh, qm, qo, qn] at HX'; refine X6m ?_; clear hK K; intro K hK
          refine xf3 bt _ _ rfl HX' 0 g10 65 32 32 sT.A sT.n sT.c rfl rfl 124 b.cells _ (xbw st 32) rfl (hGt.rd (L0 := _ :: _ :: _ :: _ :: G) (L1 := []) HX') hGt.len.symm (by rw [Brv.len]; decide) hput ?_; clear HL HX; intro w HX; refine Xbj ?_; intro HL; refine Xbk ?_; clear hK K; clear HL; have HL := Loc.dropU [_, _, _, _] HX; clear HX HX' hR hput; have hR := hR'; clear hR'; simp only [qm, qn, qg] at HL; replace hST := StS.take hST 32; clear hST1; generalize hst2 : xbt st 32 = st2 at hR hST; clear hst2 hGt; rw [← hbk'] at hbk; clear hbk'; obtain ⟨b, rfl⟩ : ∃ b, b = b' := ⟨_, rfl⟩; go_upto_region 14 with fail; refine Xgc ?_; refine Xgr ?_; refine X5 ?_; refine Xfp ?_; refine Xh9 ?_; clear HL; intro g51 w HL; refine X57 ?_; intro K hK; refine Xha ?_; clear HL hG; intro sp' G' w hG HL; simp only [qm, qn] at HL; refine Xa6 ?_; clear hK K; refine Xgb ?_; refine Xhb ?_
          refine X2y ?_; clear HL; intro w HL; go_upto_region 15 with fail; refine Xaf ?_; go_wp2_with fail; go_roundw
          case rel =>
            refine ⟨i + 1, bs ++ [b], _, _, G', sp', by omega, rfl, by rw [List.length_append, HBL.out]; rfl, ?_, hR, hST, ?_, (HL.drop _ (sB _ _)).drop _ (sB _ _)⟩
            · intro y hy
              rcases List.mem_append.1 hy with hy | hy
              · exact hbs y hy
              · rw [List.mem_singleton.1 hy, hbk]; omega
            · rw [List.flatMap_append]
              simpa using hG
          case measure => simp [intOf] <;> omega
        · have k12 : ((k : Int) == 3) = false := nB (by omega)
          go_upto_region 9 with fail; refine Xhd ?_; go_upto_region 12 with fail; refine Xv ?_; refine xaa rfl _ (xao (b := false) _ _ rfl _ _ rfl rfl k12) ?_; refine X1c ?_; go_upto_region 14 with fail; refine Xgc ?_; refine Xgr ?_; refine X5 ?_; refine Xfp ?_; refine Xh9 ?_; clear HL; intro g51 w HL; refine X57 ?_; intro K hK; refine Xha ?_; clear HL hG; intro sp' G' w hG HL; simp only [qm, qn] at HL; refine Xa6 ?_; clear hK K; refine Xgb ?_; refine Xhb ?_; refine X2y ?_; clear HL; intro w HL; go_upto_region 15 with fail; refine Xaf ?_; go_wp2_with fail; go_roundw
          case rel =>
            refine ⟨i + 1, bs ++ [b], _, _, G', sp', by omega, rfl, by rw [List.length_append, HBL.out]; rfl, ?_, hR, hST, ?_, (HL.drop _ (sB _ _)).drop _ (sB _ _)⟩
            · intro y hy
              rcases List.mem_append.1 hy with hy | hy
              · exact hbs y hy
              · rw [List.mem_singleton.1 hy, hbk]; omega
            · rw [List.flatMap_append]
              simpa using hG
          case measure => simp [intOf] <;> omega
    · have k5 : decide ((i : Int) < (sk.n : Int)) = false := by simp; omega
      have hie : i = sk.n := by omega
      have hBR : BrS w sp bs := by rw [← HBL.out] at hG; exact BrS.of (L0 := [_, _, _]) hG HL hbs
      have hspn : sp.n ≤ 65536 := by rw [hG.len]; omega
      go_upto_region 5 with fail; refine Xv ?_; refine Xgh ?_; by_cases h0 : sk.n = 0
      · have k16 : ((sk.n : Int) == 0) = true := by rw [h0]; rfl
        go_upto_region 16 with fail; refine X14 ?_; refine Xh5 ?_; refine X5 ?_; refine xaa rfl _ (xao (b := true) _ _ rfl _ _ rfl rfl k16) ?_; refine X2g ?_; refine no_implicit_lambda% (X2e ?_); refine X1l ?_; refine X2g ?_; refine no_implicit_lambda% (X2e ?_); refine X1l ?_; refine X2h ?_; refine no_implicit_lambda% (X58 ?_); go_upto_region 17 with fail; refine Xv ?_; refine Xhe ?_; refine X5 ?_; refine Xhf ?_; refine X4k ?_; clear HL; intro w HL; go_wp2_with fail; refine Xf ?_; refine Xhg ?_; exact ⟨Sv.nil, [], 10, rfl, HBK _ _ HL, ⟨Rd.nil _ _, rfl, Nat.le_refl _, fun b hb => (by cases hb)⟩, fun ad e => (by cases e), Nat.zero_le _⟩
      · have k16 : ((sk.n : Int) == 0) = false := nB (by omega)
        cases hdn : doneB st with
        | false =>
          have CD := fun u (hu : RdP (fun k => ¬ D1 k) u gr st) => hZ (xoe gr st u hu)
          rw [hdn] at CD; clear hdn; go_upto_region 16 with fail; refine X14 ?_; refine Xh5 ?_; refine X5 ?_; refine Xhh ?_; refine X5o ?_; intro K hK; refine xad cf54 rfl _ rfl ?_; refine X1z ?_; (with_reducible refine ((CD _ (hR.p (i := 1) HL rfl)).out).mono ?_); rintro e w ⟨rfl, rfl⟩; refine X5q ?_; clear hK K; refine Xbb ?_; refine X27 ?_; refine X2g ?_; refine no_implicit_lambda% (X2e ?_); refine X1l ?_; refine X2h ?_; refine no_implicit_lambda% (X58 ?_); go_upto_region 17 with fail; refine Xv ?_; refine Xhe ?_; refine X5 ?_; refine Xhf ?_; refine X4k ?_; clear HL; intro w HL; go_wp2_with fail; refine Xf ?_; refine Xhg ?_; exact ⟨Sv.nil, [], 10, rfl, HBK _ _ HL, ⟨Rd.nil _ _, rfl, Nat.le_refl _, fun b hb => (by cases hb)⟩, fun ad e => (by cases e), Nat.zero_le _⟩
        | true =>
          have CD := fun u (hu : RdP (fun k => ¬ D1 k) u gr st) => hZ (xoe gr st u hu)
          rw [hdn] at CD; clear hdn; have hG2 : Gw 124 97 G sp bs.length (bs.flatMap Brv.cells) := by rw [HBL.out]; exact hG
          go_upto_region 16 with fail; refine X14 ?_; refine Xh5 ?_; refine X5 ?_; refine Xhh ?_; refine X5o ?_; intro K hK; refine xad cf54 rfl _ rfl ?_; refine X1z ?_; (with_reducible refine ((CD _ (hR.p (i := 1) HL rfl)).out).mono ?_); rintro e w ⟨rfl, rfl⟩; refine X5q ?_; clear hK K; refine Xb0 ?_; refine Xhi ?_; refine X5p ?_; intro K hK; refine xad cf55 rfl _ rfl ?_; refine X1z ?_; (with_reducible refine (xiz sp bs _ (BrS.of (L0 := [_, _, _]) hG2 HL hbs)).mono ?_); rintro e w ⟨er, rfl, hb, _⟩; replace HL := HL.next hb; clear hb; refine X5q ?_; clear hK K; by_cases he : er = 0
          · have k11 : (er == 0) = true := by rw [he]; rfl
            clear he; refine xab rfl _ (xbi (b := false) _ _ rfl _ _ rfl rfl k11) ?_; refine Xhi ?_; refine X5p ?_; intro K hK; refine xad cf56 rfl _ rfl ?_; refine X1z ?_; (with_reducible refine (xl5 sp bs _ (BrS.of (L0 := [_, _, _]) hG2 HL hbs) hspn).mono ?_); rintro e w ⟨se, le, rfl, hte, _, _, hb⟩; replace HL := HL.next hb; clear hb; refine X5q ?_; clear hK K; refine X1n ?_; refine X5o ?_; intro K hK; refine Xbs ?_; (with_reducible refine (xdt se le A n c l _ hte (Rd.below HT.out.rd (HBK _ _ HL)) HTL.out).mono ?_); rintro e w ⟨rfl, rfl⟩; refine X5q ?_; clear hK K
            cases hcm : (Lib.compareBytes le l == 0) with
            | true =>
              have k18 : (!(Lib.compareBytes le l == 0)) = false := by rw [hcm]; rfl
              clear hcm; refine xab rfl _ (xc4 (b := false) _ _ rfl _ _ rfl rfl k18) ?_; refine X2c ?_; go_upto_region 18 with fail; refine Xv ?_; refine Xh4 ?_; refine X5 ?_; refine xa6 ag44 rfl _ _ rfl HL 2 g2 44 _ [Sv.v sp] rfl rfl rfl rfl rfl (by simp [Sv.v, Value.oneCell']) ?_; refine X2u ?_; clear HL; intro w HL; go_wp2_with fail; refine Xf ?_; refine Xhg ?_; exact ⟨sp, bs, 0, rfl, HBK _ _ HL, BrS.of (L0 := [_, _, _]) hG2 HL hbs, hG2.far (L0 := [_, _, _]) HL HOD, hspn⟩
            | false =>
              have k18 : (!(Lib.compareBytes le l == 0)) = true := by rw [hcm]; rfl
              clear hcm; refine xab rfl _ (xc4 (b := true) _ _ rfl _ _ rfl rfl k18) ?_; refine X2c ?_; go_upto_region 17 with fail; refine Xv ?_; refine Xhe ?_; refine X5 ?_; refine Xhf ?_; refine X4k ?_; clear HL; intro w HL; go_wp2_with fail; refine Xf ?_; refine Xhg ?_; exact ⟨Sv.nil, [], 10, rfl, HBK _ _ HL, ⟨Rd.nil _ _, rfl, Nat.le_refl _, fun b hb => (by cases hb)⟩, fun ad e => (by cases e), Nat.zero_le _⟩
          · have k11 : (er == 0) = false := nB he
            clear he; refine xab rfl _ (xbi (b := true) _ _ rfl _ _ rfl rfl k11) ?_; refine X27 ?_; refine X2h ?_; refine no_implicit_lambda% (X58 ?_); go_upto_region 17 with fail; refine Xv ?_; refine Xhe ?_; refine X5 ?_; refine Xhf ?_; refine X4k ?_; clear HL; intro w HL; go_wp2_with fail; refine Xf ?_; refine Xhg ?_; exact ⟨Sv.nil, [], 10, rfl, HBK _ _ HL, ⟨Rd.nil _ _, rfl, Nat.le_refl _, fun b hb => (by cases hb)⟩, fun ad e => (by cases e), Nat.zero_le _⟩
end
def rdrC (a : Sv) (e : D32) (b : Sv) : List Value := [a.v] ++ (e.c ++ ([b.v]))
theorem xd5 (a : Sv) (e : D32) (b : Sv) : (rdrC a e b).length = 34 := by simp [rdrC, D32.cl]
theorem xnn (a : Sv) (e : D32) (b : Sv) : (rdrC a e b)[0]? = some a.v := rfl
theorem rdrC_1 (a : Sv) (e : D32) (b : Sv) : ((rdrC a e b).drop 1).take 32 = e.c := by
  have h := xja [a.v] e.c [b.v] 32 (D32.cl _); simpa [rdrC] using h
theorem xrf (a : Sv) (e : D32) (b : Sv) : (rdrC a e b)[33]? = some b.v := by
  unfold rdrC; rw [← List.append_assoc, List.getElem?_append_right (by simp [D32.cl])]; simp [D32.cl]
theorem xev (a a' : Sv) (e : D32) (b : Sv) : (rdrC a e b).set 0 a'.v = rdrC a' e b := rfl
structure KyS (w : World) (A : Option Addr) (n c : Nat) (ks : List D32) : Prop where
  rd : Rd w A (ks.flatMap D32.c)
  len : ks.length = n
  cap : n ≤ c
theorem KyS.below {w w' : World} {A : Option Addr} {n c : Nat} {ks : List D32} (h : KyS w A n c ks) (hb : Below w.heap.size w w') : KyS w' A n c ks := ⟨h.rd.below hb, h.len, h.cap⟩
theorem KyS.keep {D : Nat → Prop} {L : List (Nat × Nat × List Value)} {w1 w : World} {A : Option Addr} {n c : Nat} {ks : List D32} (h : KyS w1 A n c ks) (H : Loc w1 D L w) (hD : ∀ ad, A = some ad → ad.block < w1.heap.size → D ad.block) : KyS w A n c ks := ⟨Rd.keep0 h.rd H hD, h.len, h.cap⟩
theorem KyS.at_ {w : World} {A : Option Addr} {n c : Nat} {ks : List D32} (h : KyS w A n c ks) (i : Nat) (hi : i < ks.length) : ∃ ad, A = some ad ∧ Rd w (some (ad.add (i * 32))) ks[i].c := by
  obtain ⟨ad, e, _⟩ := h.rd (by rw [xbx D32.cl]; omega); refine ⟨ad, e, ?_⟩; have h2 := h.rd.cut (i * 32) 32; rw [e] at h2; have h3 := xda (f := D32.c) D32.cl ks [] i hi; rw [List.append_nil] at h3; rw [h3] at h2; exact h2
theorem KyS.cut {w : World} {A : Option Addr} {n c : Nat} {ks : List D32} (h : KyS w A n c ks) (lo hi : Nat) (h1 : lo ≤ hi) (h2 : hi ≤ n) : KyS w (cutA A c lo 32) (hi - lo) (c - lo) ((ks.drop lo).take (hi - lo)) := by
  refine ⟨?_, by rw [List.length_take, List.length_drop, h.len]; omega, by have := h.cap; omega⟩; have h3 := h.rd.cutA (c := c) (lo := lo) (z := 32) (by rw [xbx D32.cl, h.len]; have := h.cap; exact Nat.mul_le_mul_right _ this) ((hi - lo) * 32)
  have e : ((ks.flatMap D32.c).drop (lo * 32)).take ((hi - lo) * 32) = ((ks.drop lo).take (hi - lo)).flatMap D32.c := by
    have e1 : ks.flatMap D32.c = (ks.take lo).flatMap D32.c ++ (ks.drop lo).flatMap D32.c := by rw [← List.flatMap_append, List.take_append_drop]
    have hl : ((ks.take lo).flatMap D32.c).length = lo * 32 := xde D32.cl ks lo (by rw [h.len]; omega); rw [e1, ← hl, List.drop_left]; have e2 : (ks.drop lo).flatMap D32.c = ((ks.drop lo).take (hi - lo)).flatMap D32.c ++ ((ks.drop lo).drop (hi - lo)).flatMap D32.c := by rw [← List.flatMap_append, List.take_append_drop]
    have hl2 : (((ks.drop lo).take (hi - lo)).flatMap D32.c).length = (hi - lo) * 32 := xde D32.cl _ _ (by rw [List.length_drop, h.len]; omega); rw [e2, ← hl2, List.take_left]
  rw [e] at h3; exact h3
def xf6 (ks : List D32) (d : Nat) : Nat := (ks.takeWhile fun k => !tb k.l d).length
theorem partN_le (ks : List D32) (d : Nat) : xf6 ks d ≤ ks.length := (List.takeWhile_sublist _).length_le
theorem xpx (ks : List D32) (d n : Nat) (hn : n ≤ ks.length) (h : ∀ (j : Nat) (hj : j < ks.length), j < n → tb ks[j].l d = false) (he : ∀ hj : n < ks.length, tb ks[n].l d = true) : xf6 ks d = n := by
  induction ks generalizing n with
  | nil => simp at hn; subst hn; rfl
  | cons k ks ih =>
    unfold xf6
    cases n with
    | zero =>
      have := he (by simp); simp only [List.getElem_cons_zero] at this; rw [List.takeWhile_cons, this]; rfl
    | succ n =>
      have h0 := h 0 (by simp) (by omega); simp only [List.getElem_cons_zero] at h0; rw [List.takeWhile_cons, h0]; have := ih n (by simpa using hn) (fun j hj hjn => by have := h (j + 1) (by simp; omega) (by omega); simpa using this) (fun hj => by have := he (by simp; omega); simpa using this); unfold xf6 at this; simp [this]
inductive Wys (M : Nat) : List (Nat × Nat × List Value) → List Prv → Prop
  | nil : Wys M [] []
  | cons {Gs G : List (Nat × Nat × List Value)} {xs : List Prv} {x : Prv} {ds : List D32} (h : Gw 23 32 G x.sides ds.length (ds.flatMap D32.c)) (hm : ds.length ≤ M) (hs : Wys M Gs xs) : Wys M (G ++ Gs) (x :: xs)
theorem Wys.mono {M N : Nat} {Gs : List (Nat × Nat × List Value)} {xs : List Prv} (h : Wys M Gs xs) (hm : M ≤ N) : Wys N Gs xs := by
  induction h with
  | nil => exact .nil
  | cons h1 h2 _ ih => exact .cons h1 (Nat.le_trans h2 hm) ih
theorem Wys.app {M : Nat} {Gs Hs : List (Nat × Nat × List Value)} {xs ys : List Prv} (h : Wys M Gs xs) (k : Wys M Hs ys) : Wys M (Gs ++ Hs) (xs ++ ys) := by
  induction h with
  | nil => exact k
  | @cons Gs G xs x ds h1 h2 hs ih =>
    rw [List.append_assoc]; exact Wys.cons (G := G) (x := x) h1 h2 ih
theorem Wys.split {M : Nat} {Gs : List (Nat × Nat × List Value)} {xs : List Prv} (h : Wys M Gs xs) (i : Nat) (hi : i < xs.length) : ∃ (GA G GB : List (Nat × Nat × List Value)) (ys : List Prv) (x : Prv) (zs : List Prv) (ds : List D32), Gs = GA ++ (G ++ GB) ∧ xs = ys ++ (x :: zs) ∧ ys.length = i ∧ Wys M GA ys ∧ Gw 23 32 G x.sides ds.length (ds.flatMap D32.c) ∧ ds.length ≤ M ∧ Wys M GB zs := by
  induction h generalizing i with
  | nil => simp at hi
  | @cons Gs G xs x ds h1 h2 hs ih =>
    cases i with
    | zero => exact ⟨[], G, Gs, [], x, xs, ds, rfl, rfl, rfl, .nil, h1, h2, hs⟩
    | succ i =>
      obtain ⟨GA, G', GB, ys, x', zs, ds', e1, e2, e3, h4, h5, h6, h7⟩ := ih i (by simpa using hi); subst e1 e2 e3; exact ⟨G ++ GA, G', GB, x :: ys, x', zs, ds', by rw [List.append_assoc], rfl, rfl, .cons h1 h2 h4, h5, h6, h7⟩
theorem Wys.end_ {M : Nat} {Gs : List (Nat × Nat × List Value)} {xs : List Prv} (h : Wys M Gs xs) (i : Nat) (hi : i < xs.length) (n : Nod) : Wys M Gs (xs.set i (xs[i].setN n)) := by
  obtain ⟨GA, G, GB, ys, x, zs, ds, rfl, rfl, rfl, h1, h2, h3, h4⟩ := h.split i hi; have e : (ys ++ x :: zs).set ys.length ((ys ++ x :: zs)[ys.length].setN n) = ys ++ (x.setN n) :: zs := by simp
  rw [e]; exact h1.app (.cons (x := x.setN n) h2 h3 h4)
section
variable {w w' : World}
theorem xrg (A : Option Addr) (n c : Nat) (ks : List D32) (d : Nat) (hd : d < 256) (w : World) (h : KyS w A n c ks) (hn : n ≤ 140737488351232) :
    Calls Tryz.prog 139 #[.slice A n c, .int .i64 (d : Int)] w fun e w' => e = .returned (.int .i64 ((xf6 ks d : Nat) : Int)) ∧ Below w.heap.size w w' := by
  have HT := hZ h; have HLEN := hZ h.len; clear h; have HL := Loc.start w; obtain ⟨w0, rfl⟩ := eW w; obtain ⟨pn, hpn⟩ : ∃ pn, xf6 ks d = pn := ⟨_, rfl⟩; rw [hpn]; have HPN := hZ hpn; clear hpn; go_enter Tryz.func139, Tryz.ntmps139; go_upto_region 0 with fail; refine X1k ?_; go_upto_region 1 with fail; refine X1k ?_; go_wp2_with fail
  go_loopw [5] (fun z wr => ∃ i : Nat, i ≤ n ∧ z = .int .i64 (i : Int) ∧ (∀ (j : Nat) (hj : j < ks.length), j < i → tb ks[j].l d = false) ∧ Loc w0 (Old w0) [] wr) (fun z _ => (n - intOf z).toNat)
  case atStart => exact ⟨0, Nat.zero_le _, rfl, fun j hj h => by omega, HL⟩
  case round =>
    clear HL; obtain ⟨i, hi, rfl, hz, HL⟩ := hrel; obtain ⟨w, rfl⟩ := eW wr; have HZ := hZ hz; clear hz; by_cases hlt : i < n
    · have k3 : decide ((i : Int) < (n : Int)) = true := by simp; omega
      have hik : i < ks.length := by have := HLEN.out; omega
      obtain ⟨ad, hA, hE⟩ := HT.out.at_ i hik; have HE := hZ hE; refine Xh3 ?_; intro HSV; clear hE hA; have C := fun u => hZ (xf0 u ks[i] d hd)
      cases hb : tb ks[i].l d with
      | false =>
        rw [hb] at C; refine Xaa ?_; intro HI; have HB := hZ hb; clear hb; go_upto_region 2 with fail; refine Xhl ?_; refine Xgt ?_; refine Xhm ?_; refine X5 ?_; refine Xhn ?_; refine X2a ?_; refine X5o ?_; intro K hK; refine X5m ?_; refine X5x ?_; clear hK K; intro w HL; refine X9p ?_; refine X2c ?_; go_upto_region 3 with fail; refine Xbh ?_; go_wp2_with fail; go_roundw
        case rel =>
          refine ⟨i + 1, by omega, rfl, fun j hj h => ?_, HL⟩; by_cases hji : j = i
          · subst hji; exact HB.out
          · exact HZ.out j hj (by omega)
        case measure => simp [intOf] <;> omega
      | true =>
        rw [hb] at C; have HB := hZ hb; clear hb; go_upto_region 2 with fail; refine Xhl ?_; refine Xgt ?_; refine Xhm ?_; refine X5 ?_; refine Xhn ?_; refine X2a ?_; refine X5o ?_; intro K hK; refine X5m ?_; refine X5x ?_; clear hK K; intro w HL; refine xab rfl _ (xao (b := false) _ _ rfl _ _ rfl rfl rfl) ?_; refine X2c ?_; go_upto_region 4 with fail; refine X6x ?_; go_wp2_with fail; go_ret; exact ⟨by rw [← HPN.out, xpx ks d i (by omega) HZ.out (fun _ => HB.out)]; rfl, HL.below⟩
    · have k3 : decide ((i : Int) < (n : Int)) = false := by simp; omega
      go_upto_region 2 with fail; refine Xhl ?_; refine Xgt ?_; refine X2h ?_; refine no_implicit_lambda% (X2f ?_); refine no_implicit_lambda% (X58 ?_); go_upto_region 4 with fail; refine X6x ?_; go_wp2_with fail; go_ret; exact ⟨by rw [← HPN.out, xpx ks d i (by have := HLEN.out; omega) HZ.out (fun hj => by have := HLEN.out; omega)]; rfl, HL.below⟩
end
end Go.Proofs.YtkjjdgnkelchfaaGreat
namespace Go.Proofs.YtkjjdgnkelchfaaGreat
open Go Go.RowKit Go.ChangeShapes Go.WideShapes Go.ChangeAt
section
variable {H : Type} {enc : TypeId × Value → H} {P : Program} {W : World} {base : Nat}
instance : Inhabited D32 := ⟨D32.z⟩
theorem xuo {n : Nat} {T E : TypeId} {fuel : Nat} {cs : List Value} {x : DataW H × List MemPlace} (ht : P.underlying T = some (.array n E)) (he : P.underlying E = some (.int .u8)) (hc : P.cellsOf E = 1) (hl : cs.length = n)
    (hf : DataW.trod enc P W 0 (fun _ => true) true fuel T cs = some x) : ∃ k : List UInt8, k.length = n ∧ cs = bvs k := by
  obtain ⟨xs, m, _, _, _, hxl, hi⟩ := DataW.trod_array ht hf
  have hone : ∀ i, i < n → ∃ x : UInt8, cs[i]? = some (bv x) := by
    intro i hi'; have h1 := hi i hi'; rw [hc, Nat.mul_one, List.drop_eq_getElem_cons (by omega), List.take_succ_cons, List.take_zero, List.getElem?_eq_getElem (by omega)] at h1; obtain ⟨z, hz, _, hw⟩ := DataW.trod_int he h1; injection hz with hz _; exact ⟨_, by rw [List.getElem?_eq_getElem (by omega), hz, xfq hw]⟩
  obtain ⟨f, hfn⟩ := Deep.choose_lt hone; refine ⟨(List.range n).map f, by simp, ?_⟩; apply List.ext_getElem?; intro i; simp only [bvs, List.map_map, List.getElem?_map]; by_cases h : i < n
  · rw [hfn i h, List.getElem?_range h]; rfl
  · rw [List.getElem?_eq_none (by omega), List.getElem?_eq_none (by simp; omega)]; rfl
theorem xup {T E Q : TypeId} (ht : P.underlying T = some (.slice E)) (hE : P.underlying E = some (.array 32 Q)) (hQ : P.underlying Q = some (.int .u8)) (cq : P.cellsOf Q = 1) (cE : P.cellsOf E = 32) {v : Value} {d : DataW H} {p : List MemPlace}
    (hv : Value.okWide P W .any base T v) (h : DataW.Trod enc P W 0 (fun _ => true) true T v d p) :
    ∃ A n c ks, v = .slice A n c ∧ KyS W A n c ks := by
  obtain ⟨A, n, c, rfl⟩ := okWide_slice ht hv; obtain ⟨fuel, hf⟩ := h; rcases Deep.open_slice ht hf with ⟨hcs, hx⟩ | ⟨a, len, cap, m, k, D, Pl, hcs, _, hl, hm, hmm, hx, hi⟩
  · simp [Value.cells] at hcs
    obtain ⟨rfl, rfl, rfl⟩ := hcs; exact ⟨none, 0, 0, [], rfl, ⟨Rd.nil _ _, rfl, Nat.le_refl _⟩⟩
  · simp [Value.cells] at hcs
    obtain ⟨rfl, rfl, rfl⟩ := hcs; simp only [if_true] at hmm; subst m; rw [cE] at hi
    obtain ⟨f, hfn⟩ := Deep.choose_lt (p := fun i (l : D32) => W.cells? 0 (a.add (i * 32)) 32 = some l.c) (n := n) (fun i hin => by
      obtain ⟨cs', h1, h2⟩ := hi i (by omega); obtain ⟨_, hlen, _⟩ := World.cells?_some h1; obtain ⟨l, hl1, rfl⟩ := xuo hE hQ cq hlen h2
      exact ⟨⟨l, hl1⟩, h1⟩)
    refine ⟨some a, n, c, (List.range n).map f, rfl, ⟨fun _ => ⟨a, rfl, fun j u hu => ?_⟩, by simp, hl⟩⟩
    have hj : j < n * 32 := by
      have h1 := (List.getElem?_eq_some_iff.1 hu).1; rw [xbx D32.cl] at h1; simpa using h1
    have h2 := xj0 D32.cl ((List.range n).map f) [] (j / 32) (j % 32) (by simp; omega) (Nat.mod_lt _ (by omega)); rw [List.append_nil, show j / 32 * 32 + j % 32 = j by omega, hu, List.getElem_map, List.getElem_range] at h2; have h1 := hfn (j / 32) (by omega); obtain ⟨_, _, h3⟩ := World.cells?_some h1; have h4 := h3 (j % 32) (Nat.mod_lt _ (by omega)); rw [Deep.add_add, show j / 32 * 32 + j % 32 = j by omega] at h4; rw [h4]; exact h2.symm
end
end Go.Proofs.YtkjjdgnkelchfaaGreat
