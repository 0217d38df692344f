import Derived.Test.YtkjjdgnkelchfaaGreatPTU13
set_option linter.unusedSimpArgs false
set_option linter.unusedVariables false
set_option maxRecDepth 100000
set_option maxHeartbeats 16000000
namespace Go.Proofs.YtkjjdgnkelchfaaGreat
open Go Go.RowKit
theorem xue {P : Program} {w : World} {a : Act} {o : Oper} (x y : Operand) (ho : o.op = .call { callee := .builtin .min, args := #[x, y], argTypes := #[3, 3] }) (m n : Nat) (hx : a.eval x = .int .i64 (m : Int)) (hy : a.eval y = .int .i64 (n : Int)) (k : Nat) (hk : min m n = k) :
    (execOp a.eval o).run P w = .ok (.value (.int .i64 (k : Int))) w := by
  subst hk; unfold execOp; simp only [ho, resolve, invoke, builtin, Sem.run_bind, Sem.run_pure, Result.andThen_ok, List.map_toArray, qk, ql, hx, hy]; go_simp; omega
theorem xpo (key : D32) (s : Sv) (l : List UInt8) (w : World) (h : Tx w s.A s.n s.c l) (hn : s.n ≤ 140737488351232) : Calls Tryz.prog 176 #[key.a, s.v] w (TxO w.heap.size w key l) := xud key _ _ _ l w h hn
theorem xiw (s t : Sv) (l k : List UInt8) (w : World) (h1 : Tx w s.A s.n s.c l) (h2 : Tx w t.A t.n t.c k) : Calls Tryz.prog 48 #[s.v, t.v] w fun e w' => e = .returned (.int .i64 (Lib.compareBytes l k)) ∧ w = w' := xdy _ _ _ l _ _ _ k w h1.rd h1.len h2.rd h2.len
theorem Rd.keepN {N k : Nat} {ad : Addr} {cs : List Value} {w0 w1 w : World} {D : Nat → Prop} {L : List (Nat × Nat × List Value)} (h : Rd w1 (some (ad.add k)) cs) (H : Loc w1 D L w) (hN : N ≤ ad.block) (hD : ∀ k, N ≤ k → k < w1.heap.size → D k) : Rd w (some (ad.add k)) cs :=
  Rd.keep0 h H fun ad' e h2 => hD _ (by
    cases e
    rwa [show (ad.add k).block = ad.block by unfold Addr.add; split <;> rfl]) h2
theorem xkr {w : World} {g : Nat} {x y : Cla} (h : Blk w g 141 (splice x.cells 0 y.cells)) : Blk w g 141 y.cells := by
  have e : splice x.cells 0 y.cells = y.cells := by simp [splice, Cla.len]
  rwa [e] at h
theorem xgf {P : Program} {fn : Func} {p q u : Tmp} {ty n : Nat} (h : fn.results = #[.cell p ty, .tmp q, .tmp u]) (B : AT P ty n) (tmps : Array Value) (w : World) (g t : Nat) (vs : List Value)
    (hp : tmps.getD p undef = .pointer (some ⟨g, 0, none⟩)) (hb : Blk w g t vs) (hn : vs.length = n) : (results fn tmps).run P w = .ok (.tuple #[.agg vs.toArray, tmps.getD q undef, tmps.getD u undef]) w := by
  obtain ⟨d, hu, hd⟩ := B.u; have e1 := run_loadVar_row w g t ty vs.toArray (0, 0) d hb hu (by clear hb; cases d <;> simp_all) (by rw [B.i]; simp [hn]); rw [Array.getD_eq_getD_getElem?] at hp; simp only [results, h]; simp [Sem.run_bind, Result.andThen, hp, asAddr, e1]
def PrtO (N : Nat) (w0 : World) (i : Nat) (t u : List UInt8) (e : Ending) (w' : World) : Prop := ∃ x : Cla, e = .returned (.tuple #[.agg x.cells.toArray, .int .i64 (i : Int), .int .i64 0]) ∧ Below N w0 w' ∧ Tx w' x.fst.A x.fst.n x.fst.c t ∧ Tx w' x.snd.A x.snd.n x.snd.c u ∧ (∀ ad, x.fst.A = some ad → N ≤ ad.block) ∧ ∀ ad, x.snd.A = some ad → N ≤ ad.block
section
variable {w w' : World}
theorem part_any (key : D32) (s t : Sv) (l k : List UInt8) (p q : Pf) (i : Nat) (w : World) (h1 : Tx w s.A s.n s.c l) (h2 : Tx w t.A t.n t.c k) (hn1 : s.n ≤ 140737488351232) (hn2 : t.n ≤ 140737488351232)
    (hp : decP tagE.l l = some p) (hq : decP tagE.l k = some q) (hi1 : i < (xb4 key.l p).length) (hi2 : i < (xb4 key.l q).length) (hlike : ∀ j, j < i → (xb4 key.l p).getD j [] = (xb4 key.l q).getD j []) (hne : (xb4 key.l p).getD i [] ≠ (xb4 key.l q).getD i []) :
    Calls Tryz.prog 116 #[key.a, s.v, t.v] w (PrtO w.heap.size w i ((xb4 key.l p).getD i []) ((xb4 key.l q).getD i [])) := by
  have HT1 := hZ h1; have HT2 := hZ h2; have hi257 : i ≤ 256 := by have h5 := (xfl tagE.l tagE.h l p hp).few; rw [xig] at hi1; omega
  obtain ⟨T, hT⟩ : ∃ T, (xb4 key.l p).getD i [] = T := ⟨_, rfl⟩; obtain ⟨U, hU⟩ : ∃ U, (xb4 key.l q).getD i [] = U := ⟨_, rfl⟩; rw [hT, hU]; have HTT := hZ hT; have HUU := hZ hU; clear hT hU; clear h1 h2; have HL := Loc.start w; obtain ⟨w0, rfl⟩ := eW w; go_enter Tryz.func116, Tryz.ntmps116; go_upto_region 0 with fail; refine X35 ?_; clear HL; intro g3 w HL; refine X5 ?_; refine xah xlt rfl rfl HL ?_; clear HL; intro g6 w HL; refine X1j ?_; obtain ⟨wA, rfl⟩ := eW w; have hA0 := HL.fr.size; go_upto_region 1 with fail; refine Xv ?_; refine Xc3 ?_; intro K hK; refine xad cf176 rfl _ rfl ?_; refine X1z ?_; (with_reducible refine (xpo key s l _ (HT1.out.below HL.below) hn1).mono ?_); rintro e w ⟨sa, er, rfl, hb, hx⟩; have hN := fun y hy => (HL.own y hy).2.lt
  have hNX := hb.size; replace HL := HL.next hb; clear hb; obtain ⟨rfl, p', hp', hA⟩ | ⟨_, hp'⟩ := hx
  rotate_left
  · rw [hp] at hp'; cases hp'
  rw [hp] at hp'; cases hp'; refine X6o ?_; clear hK K; go_upto_region 2 with fail; refine Xa4 ?_; obtain ⟨wB, rfl⟩ := eW w; go_upto_region 4 with fail; refine Xv ?_; refine Xc3 ?_; intro K hK; refine xad cf176 rfl _ rfl ?_; refine X1z ?_; (with_reducible refine (xpo key t k _ (HT2.out.below HL.below) hn2).mono ?_); rintro e w ⟨sb, er, rfl, hb, hx⟩; have H1 := HL.next hb; replace hA := hA.below hb; have hsz := hb.size; replace HL := HL.after hb; clear hb; obtain ⟨rfl, q', hq', hB⟩ | ⟨_, hq'⟩ := hx
  rotate_left
  · rw [hq] at hq'; cases hq'
  rw [hq] at hq'; cases hq'; obtain ⟨w2, rfl⟩ := eW w; replace hB := hB.mono hNX; have HBK := fun (L : List (Nat × Nat × List Value)) (u : World) (h : Loc w2 _ L u) => H1.back h
  have hD : ∀ k, wA.heap.size ≤ k → k < w2.heap.size → Rest w2 _ k := fun k h1 h2 => ⟨h2, fun y hy e => by have := hN y hy; omega⟩
  generalize Rest w2 _ = D2 at HL HBK hD; clear H1 hN hNX hsz; refine X6o ?_; clear hK K; have HMM : Hid (min sa.n sb.n = min sa.n sb.n) := hZ rfl; have hMi : i < min sa.n sb.n := by have := hA.len; have := hB.len; omega
  have hla := hA.len; have hlb := hB.len; have HAL := hZ hla; have HBL := hZ hlb; clear hla hlb; generalize hM : min sa.n sb.n = M at HMM hMi; have HM := hZ hM; clear hM HMM; go_upto_region 5 with fail; refine Xa4 ?_; go_upto_region 7 with fail; refine X14 ?_; refine Xcz ?_; refine X17 ?_; refine Xcz ?_; refine X5 ?_; refine xaa rfl _ (xue _ _ rfl sa.n sb.n rfl rfl M HM.out) ?_; refine X1h ?_; go_wp2_with fail
  go_loopw [38] (fun z wr => ∃ d : Nat, d ≤ i ∧ z = .int .i64 (d : Int) ∧ Loc w2 D2 [(g6, 141, Cla.z.cells), (g3, 24, key.c)] wr) (fun z _ => (i - intOf z).toNat)
  case atStart => exact ⟨0, Nat.zero_le _, rfl, HL⟩
  case round =>
    clear HL; obtain ⟨d, hdi, rfl, HL⟩ := hrel; obtain ⟨w, rfl⟩ := eW wr; obtain ⟨ad1, s1, e1, f1, r1, t1, fA1⟩ := hA.at_ d (by omega); obtain ⟨ad2, s2, e2, f2, r2, t2, fA2⟩ := hB.at_ d (by omega); have HS1 : Hid (sa.v = .slice (some ad1) sa.n sa.c) := hZ (by unfold Sv.v; rw [e1]); have HS2 : Hid (sb.v = .slice (some ad2) sb.n sb.c) := hZ (by unfold Sv.v; rw [e2]); have hd1 : d < sa.n := by have := HAL.out; omega
    have hd2 : d < sb.n := by have := HBL.out; omega
    clear e1 e2; have k8 : decide ((d : Int) < (M : Int)) = true := by simp; omega
    go_upto_region 8 with fail; refine Xv ?_; refine Xab ?_; refine X22 ?_; go_upto_region 9 with fail; refine X6x ?_; go_upto_region 10 with fail
    cases hc : ((xb4 key.l p).getD d [] == (xb4 key.l q).getD d []) with
    | true =>
      have k10 : (!(Lib.compareBytes ((xb4 key.l p).getD d []) ((xb4 key.l q).getD d []) == 0)) = false := by rw [xib, hc]; rfl
      have hlt : d < i := by
        rcases Nat.lt_or_ge d i with h | h
        · exact h
        · exfalso
          have e : d = i := by omega
          rw [e] at hc; exact hne (eq_of_beq hc)
      have HI : Hid ((d : Int) + 1 = ((d + 1 : Nat) : Int)) := hZ (by omega); clear hc; refine rB (Loc.P HL) [] [8] [0, 1, 2, 3, 4, 5, 6, 7, 8, 9] 0 ?_; refine X3u ?_; intro HL; refine Xdp ?_; refine X5 ?_; refine Xdq ?_; refine X6k ?_; refine Xdr ?_; refine X5 ?_; refine Xds ?_; refine Xk ?_; intro K hK; refine Xdt ?_; rintro e w ⟨rfl, rfl⟩; refine X65 ?_; clear hK K; refine xac rfl rfl HL (fun W hW => xc4 (b := false) _ _ rfl _ _ rfl rfl k10) ?_; refine Xd ?_; go_upto_region 12 with fail; refine Xaf ?_; go_wp2_with fail; go_roundw
      case rel => exact ⟨d + 1, by omega, rfl, HL⟩
      case measure => simp [intOf] <;> omega
    | false =>
      have k10 : (!(Lib.compareBytes ((xb4 key.l p).getD d []) ((xb4 key.l q).getD d []) == 0)) = true := by rw [xib, hc]; rfl
      have hdi' : d = i := by
        rcases Nat.lt_or_ge d i with h | h
        · rw [hlike d h] at hc; simp at hc
        · omega
      subst hdi'; clear hc; refine rB (Loc.P HL) [] [8] [0, 1, 2, 3, 4, 5, 6, 7, 8, 9] 0 ?_; refine X3u ?_; intro HL; refine Xdp ?_; refine X5 ?_; refine Xdq ?_; refine X6k ?_; refine Xdr ?_; refine X5 ?_; refine Xds ?_; refine Xk ?_; intro K hK; refine Xdt ?_; rintro e w ⟨rfl, rfl⟩; refine X65 ?_; clear hK K; refine xac rfl rfl HL (fun W hW => xc4 (b := true) _ _ rfl _ _ rfl rfl k10) ?_; refine Xd ?_; obtain ⟨HX, hb6, hn6, hne6⟩ := HL.out (L0 := []); clear HL; have HL := HX; clear HX; simp only [qn] at HL hne6; go_upto_region 11 with fail; refine rB (Loc.P HL) [] [10] [0, 1, 2, 3, 4, 5, 6, 7, 8, 9, 10, 11, 12] 0 ?_; refine X3u ?_; intro HL; refine xac rfl rfl HL (fun W hW => xaz sl50 (.tmp 51) _ rfl ad1 sa.n sa.c d .i64 HS1.out rfl hd1) ?_; refine X5 ?_; refine Xdq ?_; refine X6k ?_
      refine xac rfl rfl HL (fun W hW => xaz sl50 (.tmp 55) _ rfl ad2 sb.n sb.c d .i64 HS2.out rfl hd2) ?_; refine X5 ?_; refine Xds ?_; refine X5 ?_; refine xac rfl rfl HL (fun W hW => xbf bs141 _ rfl _ (by exact xr9 _ _)) ?_; refine Xb7 ?_; intro K hK; refine xav ag141.i _ _ rfl g6 0 141 _ _ rfl rfl hb6.drew (Cla.len _) (by rw [Cla.len]; decide) (Cla.one _) ?_; intro w' hb' hg' _; replace HL := HL.aside hg' hn6 hne6; replace hb6 := xkr hb'; refine X3w ?_; clear hK K; refine X4y ?_; go_wp2_with fail; refine Xf ?_; refine bodyPost_ret (xgf rfl ag141 _ _ g6 141 _ rfl hb6 (Cla.len _)) rfl ?_; exact ⟨⟨s1, s2⟩, rfl, HBK _ _ HL, by rw [← HTT.out]; exact t1.keep HL fA1 hD, by rw [← HUU.out]; exact t2.keep HL fA2 hD, fun ad e => Nat.le_trans hA0 (fA1 ad e), fun ad e => Nat.le_trans hA0 (fA2 ad e)⟩
end
structure ClmT (w : World) (x : Clm) (lv lb : List UInt8) : Prop where
  val : Tx w x.val.A x.val.n x.val.c lv
  byt : Tx w x.byt.A x.byt.n x.byt.c lb
  nv : x.val.n ≤ 140737488351231
  nb : x.byt.n ≤ 140737488351232
  bare : x.there = false → lv = []
theorem ClmT.below {w w' : World} {x : Clm} {lv lb : List UInt8} (h : ClmT w x lv lb) (hb : Below w.heap.size w w') : ClmT w' x lv lb := ⟨h.val.below hb, h.byt.below hb, h.nv, h.nb, h.bare⟩
def accC (root key : D32) (t : Bool) (lv lb : List UInt8) : Bool := if t then xf4 root key lv lb else absB root key lb
theorem xgz (root key : D32) (s t : Sv) (v l : List UInt8) (w : World) (hv : Tx w s.A s.n s.c v) (h : Tx w t.A t.n t.c l) (hn : t.n ≤ 140737488351232) :
    Calls Tryz.prog 50 #[root.a, key.a, s.v, t.v] w fun e w' => e = .returned (.bool (xf4 root key v l)) ∧ Below w.heap.size w w' := xpn root key _ _ _ v _ _ _ l w hv h hn
theorem xuf (root key : D32) (t : Sv) (l : List UInt8) (w : World) (h : Tx w t.A t.n t.c l) (hn : t.n ≤ 140737488351232) :
    Calls Tryz.prog 174 #[root.a, key.a, t.v] w fun e w' => e = .returned (.bool (absB root key l)) ∧ Below w.heap.size w w' := xra root key _ _ _ l w h hn
theorem xks (s : Sv) (l : List UInt8) (w : World) (h : Tx w s.A s.n s.c l) (hn : s.n ≤ 140737488351232) : Calls Tryz.prog 42 #[s.v] w fun e w' => e = .returned (tagV l).a ∧ Below w.heap.size w w' := xhl _ _ _ _ l h.rd h.len h.cap h.max hn
theorem OwnB.sv {w : World} {base : Nat} {v : Value} {l : List UInt8} (h : OwnB w base 5 v l) : ∃ s : Sv, v = s.v ∧ Tx w s.A s.n s.c l ∧ s.n = l.length ∧ ∀ ad, s.A = some ad → base ≤ ad.block ∧ ad.block < w.heap.size := by
  obtain ⟨A, c, rfl, h1, h2, h3⟩ := h.rd; exact ⟨⟨A, l.length, c⟩, rfl, ⟨rfl, h1, h2, h3, fun _ _ h => h⟩, rfl, fun ad e => h.lt _ (by subst e; rfl)⟩
theorem xhs (s : Sv) (l : List UInt8) (w : World) (h : Tx w s.A s.n s.c l) (hn : s.n ≤ 140737488351232) : Calls Tryz.prog 115 #[s.v] w fun e w' => ∃ t : Sv, e = .returned t.v ∧ Tx w' t.A t.n t.c (3 :: l) ∧ t.n = l.length + 1 ∧ (∀ ad, t.A = some ad → w.heap.size ≤ ad.block ∧ ad.block < w'.heap.size) ∧ Below w.heap.size w w' := by
  refine (xqb s.v l w ⟨s.A, s.c, by unfold Sv.v; rw [h.len], by rw [h.len]; exact h.cap, h.rd⟩ (by have := h.len; omega)).mono ?_; rintro e w' ⟨v, rfl, ho, hb⟩; obtain ⟨t, rfl, h1, h2, h3⟩ := ho.sv; exact ⟨t, rfl, h1, by rw [h2]; rfl, h3, hb⟩
theorem Tx.fr {T : Nat → Prop} {w w' : World} {A : Option Addr} {n c : Nat} {l : List UInt8} (h : Tx w A n c l) (hf : Fr T w w') (hT : ∀ ad, A = some ad → ¬ T ad.block) : Tx w' A n c l := ⟨h.len, h.cap, h.max, h.rd.fr hf hT, h.far⟩
section
variable {w w' : World}
theorem xht (root key : D32) (x : Clm) (lv lb : List UInt8) (w : World) (h : ClmT w x lv lb) : Calls Tryz.prog 114 #[root.a, key.a, .agg x.cells.toArray] w fun e w' => e = .returned (.bool (accC root key x.there lv lb)) ∧ Below w.heap.size w w' := by
  have HT := hZ h; have hnb := h.nb; clear h; have HL := Loc.start w; obtain ⟨w0, rfl⟩ := eW w; obtain ⟨b, hb⟩ : ∃ b, accC root key x.there lv lb = b := ⟨_, rfl⟩; rw [hb]; unfold accC at hb; go_enter Tryz.func114, Tryz.ntmps114; go_upto_region 0 with fail; refine X35 ?_; clear HL; intro g3 w HL; refine X5 ?_; refine X5r ?_; clear HL; intro g4 w HL; refine X5 ?_; refine X2x ?_; clear HL; intro g5 w HL; refine X1c ?_; go_upto_region 1 with fail; refine Xv ?_; refine Xdu ?_; refine xaa rfl _ (xag sc4 HL _ rfl _ _ rfl _ _ _ (.head _) (Clm.g_there _)) ?_; refine X22 ?_
  cases ht : x.there with
  | true =>
    rw [ht] at hb; simp only [if_true] at hb; have HB := hZ hb; clear hb; go_upto_region 2 with fail; refine Xv ?_; refine Xdv ?_; refine X5 ?_; refine X79 ?_; refine X5 ?_; refine xaa rfl _ (xaf xmn _ rfl _ rfl) ?_; refine X5 ?_; refine xaa rfl _ (xag sc25 HL _ rfl _ _ rfl _ _ _ (.head _) (Clm.g_val _)) ?_; refine Xdx ?_; refine X57 ?_; intro K hK; refine xad cf50 rfl _ rfl ?_; refine X1z ?_; (with_reducible refine (xgz root key x.val x.byt lv lb _ (HT.out.val.below HL.below) (HT.out.byt.below HL.below) hnb).mono ?_); refine X6w ?_; clear hK K; intro w HL; rw [HB.out]; go_wp2_with fail; go_ret; exact ⟨rfl, HL.below⟩
  | false =>
    rw [ht] at hb; simp only [Bool.false_eq_true, if_false] at hb; have HB := hZ hb; clear hb; go_upto_region 3 with fail; refine Xv ?_; refine Xdv ?_; refine X5 ?_; refine X79 ?_; refine Xdx ?_; refine X57 ?_; intro K hK; refine xad cf174 rfl _ rfl ?_; refine X1z ?_; (with_reducible refine (xuf root key x.byt lb _ (HT.out.byt.below HL.below) hnb).mono ?_); refine X6w ?_; clear hK K; intro w HL; rw [HB.out]; go_wp2_with fail; go_ret; exact ⟨rfl, HL.below⟩
def ClsO (N : Nat) (w0 : World) (x y : Clm) (lv mv : List UInt8) (e : Ending) (w' : World) : Prop := ∃ (c : Cla) (ok : Bool), e = .returned (.tuple #[.agg c.cells.toArray, .bool ok]) ∧ Below N w0 w' ∧
  ((ok = false ∧ x.there = y.there ∧ lv = mv) ∨ (ok = true ∧ ¬ (x.there = y.there ∧ lv = mv) ∧ ∃ t u, Tx w' c.fst.A c.fst.n c.fst.c t ∧ Tx w' c.snd.A c.snd.n c.snd.c u ∧ c.fst.n ≤ 140737488351232 ∧ c.snd.n ≤ 140737488351232 ∧ xeh t u = true ∧ (∀ ad, c.fst.A = some ad → N ≤ ad.block) ∧ ∀ ad, c.snd.A = some ad → N ≤ ad.block))
theorem xpp {root key : D32} {t : Bool} {lv lb : List UInt8} (h : accC root key t lv lb = true) : accP root.l key.l lb = some (if t then some (tagV lv).l else none) := by
  unfold accC at h
  cases t with
  | true =>
    simp only [if_true] at h; unfold xf4 at h; simp only [Bool.and_eq_true, decide_eq_true_eq] at h; simpa using h.2
  | false =>
    simp only [Bool.false_eq_true, if_false] at h; unfold absB at h; simpa using h
theorem xug {l k : List UInt8} (h1 : l ≠ k) (h2 : shaL l = shaL k) : xeh l k = true := by
  unfold xeh; rw [h2, nB h1]; simp
theorem xik (key : Bts) (p : Pf) (h : p.Ok) (i : Nat) : ((xb4 key p).getD i []).length ≤ 65 := by
  have h1 : ∀ (ss : List Bts) (d : Nat), (∀ s ∈ ss, s.length = 32) → ∀ t ∈ xb0 shaL (tb key) d ss (endT p.fin), t.length ≤ 65 := by
    intro ss
    induction ss with
    | nil =>
      intro d _ t ht; have ht : t ∈ [endT p.fin] := ht; rw [List.mem_singleton.1 ht]
      cases hf : p.fin with
      | none => simp [endT]
      | some x =>
        obtain ⟨k, v⟩ := x; obtain ⟨e1, e2⟩ := h.f32 k v hf; simp [endT, e1, e2]
    | cons s ss ih =>
      intro d hs t ht; rw [xb0] at ht; rcases List.mem_cons.1 ht with rfl | ht
      · rw [xii (xbb _) (hs s (by simp))]
        exact Nat.le_refl _
      · exact ih (d + 1) (fun u hu => hs u (by simp [hu])) t ht
  rcases Nat.lt_or_ge i (xb4 key p).length with h2 | h2
  · rw [List.getD_eq_getElem?_getD, List.getElem?_eq_getElem h2]
    exact h1 p.sides 0 h.s32 _ (List.getElem_mem _)
  · simp [List.getD, h2]
theorem clash_ok (root key : D32) (x y : Clm) (lv lb mv mb : List UInt8) (w : World) (h1 : ClmT w x lv lb) (h2 : ClmT w y mv mb) (ha : accC root key x.there lv lb = true) (hb : accC root key y.there mv mb = true) :
    Calls Tryz.prog 64 #[root.a, key.a, .agg x.cells.toArray, .agg y.cells.toArray] w (ClsO w.heap.size w x y lv mv) := by
  have HT1 := hZ h1; have HT2 := hZ h2; have hnb := h1.nb; have hmb := h2.nb; have hnv := h1.nv; have hmv := h2.nv; have HBX := hZ h1.bare; have HBY := hZ h2.bare; clear h1 h2; have HA1 := hZ (xpp ha); have HA2 := hZ (xpp hb); have HL := Loc.start w; obtain ⟨w0, rfl⟩ := eW w; have CA := fun u hu => hZ (xht root key x lv lb u hu)
  have CB := fun u hu => hZ (xht root key y mv mb u hu)
  rw [ha] at CA; rw [hb] at CB; clear ha hb; go_enter Tryz.func64, Tryz.ntmps64; go_upto_region 0 with fail; refine Xcr ?_; clear HL; intro g4 g5 w HL; refine X5 ?_; refine Xdy ?_; clear HL; intro g6 g7 w HL; refine X5 ?_; refine xah xlt rfl rfl HL ?_; clear HL; intro g8 w HL; refine X1c ?_; go_upto_region 1 with fail; refine Xv ?_; refine Xc7 ?_; refine X9c ?_; refine X5 ?_; refine xaa rfl _ (xan ag39 HL _ rfl _ rfl _ _ (.tail _ (.tail _ (.head _))) (Clm.len _)) ?_; refine X57 ?_; intro K hK; refine xad cf114 rfl _ rfl ?_; refine X1z ?_; (with_reducible refine ((CA _ (HT1.out.below HL.below)).out).mono ?_); refine X5x ?_; clear hK K; intro w HL; refine Xbp ?_; refine X17 ?_; refine Xdz ?_; refine Xcd ?_; refine X5 ?_; refine xab rfl _ (xan ag39 HL _ rfl _ rfl _ _ (.tail _ (.head _)) (Clm.len _)) ?_; refine X5p ?_; intro K hK
  refine xad cf114 rfl _ rfl ?_; refine X1z ?_; (with_reducible refine ((CB _ (HT2.out.below HL.below)).out).mono ?_); refine X5x ?_; clear hK K; intro w HL; refine Xb1 ?_; generalize hLB : [(g8, 141, Cla.z.cells), (g7, 39, y.cells), (g6, 39, x.cells), (g5, 24, key.c), (g4, 23, root.c)] = LB at HL; have hm6 : (g6, 39, x.cells) ∈ LB := by rw [← hLB]; exact .tail _ (.tail _ (.head _))
  have hm7 : (g7, 39, y.cells) ∈ LB := by rw [← hLB]; exact .tail _ (.head _)
  obtain ⟨sm, hsm⟩ : ∃ b, (lv == mv) = b := ⟨_, rfl⟩; have k9 : (Lib.compareBytes lv mv == 0) = sm := by rw [xib, hsm]
  go_upto_region 3 with fail
  go_cut [10] from 27 to 37 (fun p wx => ∃ ga, p = .pointer (some ⟨ga, 0, none⟩) ∧ Loc w0 (Old w0) ((ga, 208, (⟨x.there, y.there, sm⟩ : Say).cells) :: LB) wx)
  case first =>
    have HX := HL.drew; refine rB (Loc.P HL) [] [8, 11, 12] [0, 1, 2, 3, 4, 5, 6, 7] 5 ?_; refine X37 ?_; intro HL; refine xac rfl rfl HL (fun W hW => xaf xqn _ rfl _ rfl) ?_; refine X5 ?_; refine xac rfl rfl HL (fun W hW => xag sc4 hW _ rfl _ _ rfl _ _ _ hm6 (Clm.g_there _)) ?_; refine X5 ?_; refine xac rfl rfl HL (fun W hW => xaf xqn _ rfl _ rfl) ?_; refine X5 ?_; refine xac rfl rfl HL (fun W hW => xag sc4 hW _ rfl _ _ rfl _ _ _ hm7 (Clm.g_there _)) ?_; refine X5 ?_; refine Xe0 ?_; refine xac rfl rfl HL (fun W hW => xag sc25 hW _ rfl _ _ rfl _ _ _ hm6 (Clm.g_val _)) ?_; refine X5 ?_; refine Xe0 ?_; refine xac rfl rfl HL (fun W hW => xag sc25 hW _ rfl _ _ rfl _ _ _ hm7 (Clm.g_val _)) ?_; refine X5 ?_; refine xcl [8, 11] (by kernel_rfl) ?_; refine X2 ?_; refine ⟨⟨rfl, ?_⟩, ⟨rfl, ?_⟩, trivial⟩
    · intro K hK
      refine Xbs ?_; refine Xe1 ?_; rintro e w ⟨rfl, rfl⟩; refine X65 ?_; clear hK K; refine xbj [9, 10, 11, 12] 0 (by kernel_rfl) ?_; refine X2 ?_; refine xac rfl rfl HL (fun W hW => xao _ _ rfl _ _ rfl rfl k9) ?_; refine Xe2 ?_; refine Xk ?_; intro K hK; refine xf5 zr208 rfl HX ?_; clear HX HL; intro g10 w HX; refine Xe3 ?_; intro HL; refine X3x ?_; clear hK K; intro K hK; refine Xe4 ?_; refine Xdh ?_; clear HX HL; intro w HX; refine Xe3 ?_; intro HL; refine Xbk ?_; clear hK K; go_wp2_with fail; go_meet
      case rel => exact ⟨g10, rfl, HX⟩
    · intro K hK
      refine xf5 zr208 rfl HX ?_; clear HX HL; intro g10 w HX; refine Xe3 ?_; intro HL; refine X3w ?_; clear hK K; refine xbj [8, 9, 10, 12] 0 (by kernel_rfl) ?_; refine Xd5 ?_; intro K hK; refine Xbs ?_; refine Xe1 ?_; rintro e w ⟨rfl, rfl⟩; refine X65 ?_; clear hK K; refine xac rfl rfl HL (fun W hW => xao _ _ rfl _ _ rfl rfl k9) ?_; refine Xe2 ?_; refine Xk ?_; intro K hK; refine Xe4 ?_; refine Xdh ?_; clear HX HL; intro w HX; refine Xe3 ?_; intro HL; refine Xbk ?_; clear hK K; go_wp2_with fail; go_meet
      case rel => exact ⟨g10, rfl, HX⟩
  case rest =>
    clear HL; obtain ⟨g10, rfl, HL⟩ := hcut; obtain ⟨w, rfl⟩ := eW wc; subst hLB; clear hm6 hm7; have hsy : sayEq (⟨x.there, y.there, sm⟩ : Say) ⟨true, true, true⟩ = (x.there && (y.there && sm)) := by unfold sayEq; cases x.there <;> cases y.there <;> cases sm <;> rfl
    have hdis : ¬ (x.there = y.there ∧ lv = mv) → accP root.l key.l lb = some (if x.there then some (tagV lv).l else none) → accP root.l key.l mb = some (if y.there then some (tagV mv).l else none) → True := fun _ _ _ => trivial
    clear hdis
    cases htx : x.there with
    | true =>
      cases hty : y.there with
      | true =>
        rw [htx] at HA1 HL; rw [hty] at HA2 HL
        cases hs : sm with
        | true =>
          rw [hs] at HL; have hlm : lv = mv := by rw [hs] at hsm; exact eq_of_beq hsm
          go_upto_region 4 with fail; refine Xv ?_; refine Xe5 ?_; refine X5 ?_; refine Xe6 ?_; refine X5 ?_; refine xaa rfl _ (xel _ _ rfl (⟨true, true, true⟩ : Say) ⟨true, true, true⟩ rfl rfl true rfl) ?_; refine X2j ?_; refine X1u ?_; go_upto_region 5 with fail; refine Xv ?_; refine xaa rfl _ (xc8 bs141 rfl) ?_; refine Xe7 ?_; refine X4k ?_; clear HL; intro w HL; go_wp2_with fail; refine Xf ?_; refine Xe8 ?_; exact ⟨Cla.z, false, rfl, HL.below, .inl ⟨rfl, by rw [htx, hty], by first | exact hlm | rfl⟩⟩
        | false =>
          rw [hs] at HL; have hlm : lv ≠ mv := by rw [hs] at hsm; intro e; rw [e] at hsm; simp at hsm
          have hns : ¬ (x.there = y.there ∧ lv = mv) := fun e => hlm e.2
          go_upto_region 4 with fail; refine Xv ?_; refine Xe5 ?_; refine X5 ?_; refine Xe6 ?_; refine X5 ?_; refine xaa rfl _ (xel _ _ rfl (⟨true, true, false⟩ : Say) ⟨true, true, true⟩ rfl rfl false rfl) ?_; refine X17 ?_; refine Xe9 ?_; refine X5 ?_; refine Xea ?_; refine X5 ?_; refine Xb0 ?_; refine X2a ?_; refine no_implicit_lambda% (X2f ?_); refine no_implicit_lambda% (X2e ?_); refine X1s ?_; refine X1v ?_
          cases hv : ((tagV lv).l == (tagV mv).l) with
          | true =>
            have k13 := hv
            have hcl : xeh (3 :: lv) (3 :: mv) = true := by
              unfold xeh; have e : shaL (3 :: lv) = shaL (3 :: mv) := eq_of_beq hv; rw [e]; simp [hlm]
            clear hv; go_upto_region 6 with fail; refine Xeb ?_; refine X37 ?_; intro HL; refine Xec ?_; refine X5 ?_; refine Xed ?_; refine X3d ?_; refine Xee ?_; refine X5 ?_; refine Xef ?_; refine X3f ?_; refine X3d ?_; refine Xe0 ?_; refine Xeg ?_; refine X5 ?_; refine Xe0 ?_; refine Xeh ?_; refine Xk ?_; intro K hK; refine Xei ?_; refine X6r ?_; clear hK K; intro w HL K hK; refine Xej ?_; refine X6s ?_; clear hK K; intro w HL; refine xac rfl rfl HL (fun W hW => xcn ab25 _ _ rfl (tagV lv) (tagV mv) rfl rfl true k13) ?_; refine X3f ?_; refine X7k ?_; obtain ⟨HX, hb8, hn8, hne8⟩ := HL.out (L0 := [_]); clear HL; have HL := HX; clear HX; simp only [qm, qn] at HL hne8; have h80 : g8 < w.drew.heap.size := hb8.lt; replace hb8 := hb8.drew; have hBB : Below w.heap.size w w.drew := (Below.refl _ _).drew; obtain ⟨wM, hwM⟩ : ∃ wM, wM = w := ⟨_, rfl⟩; go_upto_region 7 with fail
            refine rB (Loc.P HL) [] [2, 5, 7] [0, 1, 3, 4, 2, 5, 6, 7, 8] 0 ?_; refine X37 ?_; intro HL; refine Xe0 ?_; refine Xeh ?_; refine X5 ?_; refine Xe0 ?_; refine xac rfl rfl HL (fun W hW => xag sc25 hW _ rfl _ _ rfl _ _ _ (.tail _ (.head _)) (Clm.g_val _)) ?_; refine Xk ?_; intro K hK; refine xad cf115 rfl _ rfl ?_; refine X1z ?_; (with_reducible refine (xhs x.val lv _ (HT1.out.val.below HL.below) (by omega)).mono ?_); rintro e w ⟨t1, rfl, ht1, hl1, hf1, hb⟩; have hNN := HL.fr.size; replace HL := HL.next hb; have hb81 := hb8.below hb hb8.lt; clear hb8; have hz1 := hb.size; clear hb; refine X6m ?_; clear hK K; intro K hK; refine xad cf115 rfl _ rfl ?_; refine X1z ?_; (with_reducible refine (xhs y.val mv _ (HT2.out.val.below HL.below) (by omega)).mono ?_); rintro e w ⟨t2, rfl, ht2, hl2, hf2, hb⟩; replace HL := HL.next hb; have hb8 := hb81.below hb hb81.lt
            replace ht1 := ht1.below hb; have hz2 := hb.size; clear hb hb81; refine X65 ?_; clear hK K; refine xac rfl rfl HL (fun W hW => xbf bs141 _ rfl _ (by exact xr9 _ _)) ?_; refine Xk ?_; intro K hK; refine xav ag141.i _ _ rfl g8 0 141 _ _ rfl rfl hb8 (Cla.len _) (by rw [Cla.len]; decide) (Cla.one _) ?_; intro w' hb' hg' _; replace HL := HL.aside hg' hn8 hne8; replace hb8 := xkr hb'; have hfg : Fr (· = g8) _ w' := (Fr.refl (· = g8) _).grown hg' (fun k hk => .inl (by cases hk; rfl)); have ht1 := ht1.fr hfg (fun ad e e2 => by have h5 := (hf1 ad e).1; omega); have ht2 := ht2.fr hfg (fun ad e e2 => by have h5 := (hf2 ad e).1; omega); refine Xa0 ?_; clear hK K; go_wp2_with fail; refine Xf ?_; refine bodyPost_ret (xak rfl ag141 _ _ g8 141 _ rfl hb8 (Cla.len _)) rfl ?_
            exact ⟨⟨t1, t2⟩, true, rfl, HL.below, .inr ⟨rfl, hns, _, _, ht1, ht2, by rw [hl1]; have := HT1.out.val.len; omega, by rw [hl2]; have := HT2.out.val.len; omega, hcl, fun ad e => Nat.le_trans hNN (hf1 ad e).1, fun ad e => Nat.le_trans (Nat.le_trans hNN hz1) (hf2 ad e).1⟩⟩
          | false =>
            have k13 := hv
            have hdif : (if true = true then some (tagV lv).l else none) ≠ (if true = true then some (tagV mv).l else none) := by
              simp only [if_true]; intro e; injection e with e; rw [e] at hv; simp at hv
            clear hv; go_upto_region 6 with fail; refine Xeb ?_; refine X37 ?_; intro HL; refine Xec ?_; refine X5 ?_; refine Xed ?_; refine X3d ?_; refine Xee ?_; refine X5 ?_; refine Xef ?_; refine X3f ?_; refine X3d ?_; refine Xe0 ?_; refine Xeg ?_; refine X5 ?_; refine Xe0 ?_; refine Xeh ?_; refine Xk ?_; intro K hK; refine Xei ?_; refine X6r ?_; clear hK K; intro w HL K hK; refine Xej ?_; refine X6s ?_; clear hK K; intro w HL; refine xac rfl rfl HL (fun W hW => xcn ab25 _ _ rfl (tagV lv) (tagV mv) rfl rfl false k13) ?_; refine X3f ?_; refine X7k ?_; refine Xek ?_; intro p q hp hq i hi1 hi2 hlike hne hsha op; have oq := xfl tagE.l tagE.h mb q hq; refine Xel ?_; intro hcl; have hT := xik key.l p op i; have hU := xik key.l q oq i; have HCL := hZ hcl; have HTL := hZ hT; have HUL := hZ hU; refine Xem ?_; intro CP; clear hcl hsha hdif hT hU hlike hne hi1 hi2 hp hq op oq
            generalize (xb4 key.l p).getD i [] = T at HCL HTL CP; generalize (xb4 key.l q).getD i [] = U at HCL HUL CP; go_upto_region 8 with fail; refine Xv ?_; refine Xen ?_; refine Xdw ?_; refine Xeo ?_; refine Xdw ?_; refine Xep ?_; refine X57 ?_; intro K hK; refine xad cf116 rfl _ rfl ?_; refine X1z ?_; refine Xeq ?_; rintro e w ⟨z, rfl, hb, htz, huz, hfz, hgz⟩; have H1 := HL.next hb; have hNN := HL.fr.size; refine Xbm ?_; intro hfr; replace HL := HL.after hb; clear hb; obtain ⟨w1, rfl⟩ := eW w; refine Xap ?_; intro HBK; generalize Rest w1 _ = D1 at HL HBK hfr; clear H1; refine X7b ?_; clear hK K; refine xah xlt rfl rfl HL ?_; clear HL; intro g11 w HL; refine X5 ?_; refine Xer ?_; refine Xes ?_; clear HL; intro w HL; go_upto_region 9 with fail; refine Xv ?_; refine Xet ?_; refine X5 ?_; refine Xeu ?_; refine X4k ?_; clear HL; intro w HL; go_wp2_with fail; refine Xf ?_
            refine Xev ?_; have hl1 := htz.len; have hl2 := huz.len; exact ⟨z, true, rfl, HBK _ _ HL, .inr ⟨rfl, hns, T, U, htz.keep HL hfz hfr, huz.keep HL hgz hfr, by have := HTL.out; omega, by have := HUL.out; omega, HCL.out, fun ad e => Nat.le_trans hNN (hfz ad e), fun ad e => Nat.le_trans hNN (hgz ad e)⟩⟩
      | false =>
        rw [htx] at HA1 HL; rw [hty] at HA2 HL; have hns : ¬ (x.there = y.there ∧ lv = mv) := fun e => by rw [htx, hty] at e; cases e.1
        have hdif : (if true = true then some (tagV lv).l else none) ≠ (if false = true then some (tagV mv).l else none) := by simp
        go_upto_region 4 with fail; refine Xv ?_; refine Xe5 ?_; refine X5 ?_; refine Xe6 ?_; refine X5 ?_; refine xaa rfl _ (xel _ _ rfl (⟨true, false, sm⟩ : Say) ⟨true, true, true⟩ rfl rfl false rfl) ?_; refine X17 ?_; refine Xe9 ?_; refine X5 ?_; refine Xea ?_; refine X5 ?_; refine Xb0 ?_; refine X2a ?_; refine no_implicit_lambda% (X2f ?_); refine no_implicit_lambda% (X2e ?_); refine X1s ?_; refine X1v ?_; go_upto_region 6 with fail; refine Xeb ?_; refine X37 ?_; intro HL; refine Xec ?_; refine X5 ?_; refine Xed ?_; refine X3d ?_; refine Xee ?_; refine X5 ?_; refine Xef ?_; refine X3f ?_; refine Xew ?_; refine X7j ?_; refine X7j ?_; refine X7g ?_; refine X3e ?_; refine X7k ?_; refine Xek ?_; intro p q hp hq i hi1 hi2 hlike hne hsha op; have oq := xfl tagE.l tagE.h mb q hq; refine Xel ?_; intro hcl; have hT := xik key.l p op i; have hU := xik key.l q oq i
        have HCL := hZ hcl; have HTL := hZ hT; have HUL := hZ hU; refine Xem ?_; intro CP; clear hcl hsha hdif hT hU hlike hne hi1 hi2 hp hq op oq; generalize (xb4 key.l p).getD i [] = T at HCL HTL CP; generalize (xb4 key.l q).getD i [] = U at HCL HUL CP; go_upto_region 8 with fail; refine Xv ?_; refine Xen ?_; refine Xdw ?_; refine Xeo ?_; refine Xdw ?_; refine Xep ?_; refine X57 ?_; intro K hK; refine xad cf116 rfl _ rfl ?_; refine X1z ?_; refine Xeq ?_; rintro e w ⟨z, rfl, hb, htz, huz, hfz, hgz⟩; have H1 := HL.next hb; have hNN := HL.fr.size; refine Xbm ?_; intro hfr; replace HL := HL.after hb; clear hb; obtain ⟨w1, rfl⟩ := eW w; refine Xap ?_; intro HBK; generalize Rest w1 _ = D1 at HL HBK hfr; clear H1; refine X7b ?_; clear hK K; refine xah xlt rfl rfl HL ?_; clear HL; intro g11 w HL; refine X5 ?_; refine Xer ?_; refine Xes ?_; clear HL; intro w HL
        go_upto_region 9 with fail; refine Xv ?_; refine Xet ?_; refine X5 ?_; refine Xeu ?_; refine X4k ?_; clear HL; intro w HL; go_wp2_with fail; refine Xf ?_; refine Xev ?_; have hl1 := htz.len; have hl2 := huz.len; exact ⟨z, true, rfl, HBK _ _ HL, .inr ⟨rfl, hns, T, U, htz.keep HL hfz hfr, huz.keep HL hgz hfr, by have := HTL.out; omega, by have := HUL.out; omega, HCL.out, fun ad e => Nat.le_trans hNN (hfz ad e), fun ad e => Nat.le_trans hNN (hgz ad e)⟩⟩
    | false =>
      cases hty : y.there with
      | true =>
        rw [htx] at HA1 HL; rw [hty] at HA2 HL; have hns : ¬ (x.there = y.there ∧ lv = mv) := fun e => by rw [htx, hty] at e; cases e.1
        have hdif : (if false = true then some (tagV lv).l else none) ≠ (if true = true then some (tagV mv).l else none) := by simp
        go_upto_region 4 with fail; refine Xv ?_; refine Xe5 ?_; refine X5 ?_; refine Xe6 ?_; refine X5 ?_; refine xaa rfl _ (xel _ _ rfl (⟨false, true, sm⟩ : Say) ⟨true, true, true⟩ rfl rfl false rfl) ?_; refine X17 ?_; refine Xe9 ?_; refine X5 ?_; refine Xea ?_; refine X5 ?_; refine Xbb ?_; refine X2a ?_; refine xab rfl _ (xaf xmw _ rfl _ rfl) ?_; refine Xex ?_; refine X5 ?_; refine Xb0 ?_; refine X1w ?_; go_upto_region 6 with fail; refine Xeb ?_; refine X37 ?_; intro HL; refine Xec ?_; refine X5 ?_; refine Xed ?_; refine X3d ?_; refine X7n ?_; refine Xew ?_; refine X7j ?_; refine X7j ?_; refine X7g ?_; refine X3e ?_; refine X7k ?_; refine Xek ?_; intro p q hp hq i hi1 hi2 hlike hne hsha op; have oq := xfl tagE.l tagE.h mb q hq; refine Xel ?_; intro hcl; have hT := xik key.l p op i; have hU := xik key.l q oq i; have HCL := hZ hcl; have HTL := hZ hT
        have HUL := hZ hU; refine Xem ?_; intro CP; clear hcl hsha hdif hT hU hlike hne hi1 hi2 hp hq op oq; generalize (xb4 key.l p).getD i [] = T at HCL HTL CP; generalize (xb4 key.l q).getD i [] = U at HCL HUL CP; go_upto_region 8 with fail; refine Xv ?_; refine Xen ?_; refine Xdw ?_; refine Xeo ?_; refine Xdw ?_; refine Xep ?_; refine X57 ?_; intro K hK; refine xad cf116 rfl _ rfl ?_; refine X1z ?_; refine Xeq ?_; rintro e w ⟨z, rfl, hb, htz, huz, hfz, hgz⟩; have H1 := HL.next hb; have hNN := HL.fr.size; refine Xbm ?_; intro hfr; replace HL := HL.after hb; clear hb; obtain ⟨w1, rfl⟩ := eW w; refine Xap ?_; intro HBK; generalize Rest w1 _ = D1 at HL HBK hfr; clear H1; refine X7b ?_; clear hK K; refine xah xlt rfl rfl HL ?_; clear HL; intro g11 w HL; refine X5 ?_; refine Xer ?_; refine Xes ?_; clear HL; intro w HL; go_upto_region 9 with fail; refine Xv ?_; refine Xet ?_
        refine X5 ?_; refine Xeu ?_; refine X4k ?_; clear HL; intro w HL; go_wp2_with fail; refine Xf ?_; refine Xev ?_; have hl1 := htz.len; have hl2 := huz.len; exact ⟨z, true, rfl, HBK _ _ HL, .inr ⟨rfl, hns, T, U, htz.keep HL hfz hfr, huz.keep HL hgz hfr, by have := HTL.out; omega, by have := HUL.out; omega, HCL.out, fun ad e => Nat.le_trans hNN (hfz ad e), fun ad e => Nat.le_trans hNN (hgz ad e)⟩⟩
      | false =>
        rw [htx] at HA1 HL; rw [hty] at HA2 HL; have hlm : lv = mv := by rw [HBX.out htx, HBY.out hty]
        go_upto_region 4 with fail; refine Xv ?_; refine Xe5 ?_; refine X5 ?_; refine Xe6 ?_; refine X5 ?_; refine xaa rfl _ (xel _ _ rfl (⟨false, false, sm⟩ : Say) ⟨true, true, true⟩ rfl rfl false rfl) ?_; refine X17 ?_; refine Xe9 ?_; refine X5 ?_; refine Xea ?_; refine X5 ?_; refine Xbb ?_; refine X2a ?_; refine xab rfl _ (xaf xmw _ rfl _ rfl) ?_; refine Xex ?_; refine X5 ?_; refine Xbb ?_; refine X1w ?_; go_upto_region 5 with fail; refine Xv ?_; refine xaa rfl _ (xc8 bs141 rfl) ?_; refine Xe7 ?_; refine X4k ?_; clear HL; intro w HL; go_wp2_with fail; refine Xf ?_; refine Xe8 ?_; exact ⟨Cla.z, false, rfl, HL.below, .inl ⟨rfl, by rw [htx, hty], by first | exact hlm | rfl⟩⟩
end
theorem xpq (s t : Sv) (l k : List UInt8) (w : World) (h1 : Tx w s.A s.n s.c l) (h2 : Tx w t.A t.n t.c k) : Calls Tryz.prog 65 #[s.v, t.v] w fun e w' => e = .returned (.bool (l == k)) ∧ w = w' := xp9 _ _ _ l _ _ _ k w h1.rd h1.len h2.rd h2.len
theorem xuh (x : Cla) (l k : List UInt8) (w : World) (h1 : Tx w x.fst.A x.fst.n x.fst.c l) (h2 : Tx w x.snd.A x.snd.n x.snd.c k) (hn : x.fst.n ≤ 140737488351232) (hm : x.snd.n ≤ 140737488351232) :
    Calls Tryz.prog 66 #[.agg x.cells.toArray] w fun e w' => e = .returned (.bool (xeh l k)) ∧ Below w.heap.size w w' := xts _ _ _ l _ _ _ k w h1 h2 hn hm
theorem xil (w : World) : Tx w none 0 0 [] := ⟨rfl, Nat.le_refl _, by unfold maxLen; omega, Rd.nil _ _, fun _ _ h => h⟩
theorem xpr {P : Program} {w : World} {a : Act} {o : Oper} {t t' : TypeId} {b : Bool} (x y : Operand) (ho : o.op = .binOp .eql t x y t') (p q : Bool) (hx : a.eval x = .bool p) (hy : a.eval y = .bool q) (ht : P.underlying t = some .bool) (h : (p == q) = b) : (execOp a.eval o).run P w = .ok (.value (.bool b)) w := by
  subst h; unfold execOp; simp only [ho, hx, hy]; go_simp
  try rfl
section
variable {w w' : World}
theorem xrc (root key : D32) (x y : Clm) (lv lb mv mb : List UInt8) (w : World) (h1 : ClmT w x lv lb) (h2 : ClmT w y mv mb) (ha : accC root key x.there lv lb = true) (hb : accC root key y.there mv mb = true) :
    Calls Tryz.prog 16 #[root.a, key.a, .agg x.cells.toArray, .agg y.cells.toArray] w fun e w' => e = .returned (.bool true) ∧ Below w.heap.size w w' := by
  have HT1 := hZ h1; have HT2 := hZ h2; have CC := fun u k1 k2 => hZ (clash_ok root key x y lv lb mv mb u k1 k2 ha hb)
  clear h1 h2 ha hb; have HL := Loc.start w; obtain ⟨w0, rfl⟩ := eW w; go_enter Tryz.func16, Tryz.ntmps16; go_upto_region 0 with fail; refine Xcr ?_; clear HL; intro g4 g5 w HL; refine X5 ?_; refine Xdy ?_; clear HL; intro g6 g7 w HL; refine X1c ?_; go_upto_region 1 with fail; refine Xv ?_; refine Xey ?_; refine X5 ?_; refine Xbz ?_; refine X5 ?_; refine xaa rfl _ (xan ag39 HL _ rfl _ rfl _ _ (.tail _ (.head _)) (Clm.len _)) ?_; refine X5 ?_; refine Xez ?_; refine X57 ?_; intro K hK; refine xad cf64 rfl _ rfl ?_; refine X1z ?_; (with_reducible refine ((CC _ (HT1.out.below HL.below) (HT2.out.below HL.below)).out).mono ?_); rintro e w ⟨c, ok, rfl, hb, hc⟩; refine Xbn ?_; intro H1 hfr; replace HL := HL.after hb; clear hb; obtain ⟨w1, rfl⟩ := eW w; refine Xap ?_; intro HBK; generalize Rest w1 _ = D1 at HL HBK hfr; clear H1; refine X5c ?_; clear hK K
  refine xah xlt rfl rfl HL ?_; clear HL; intro g9 w HL; refine X5 ?_; refine Xer ?_; refine X4k ?_; clear HL; intro w HL; rcases hc with ⟨rfl, hth, hlm⟩ | ⟨rfl, hns, t, u, ht, hu, hn1, hn2, hcl, hf1, hf2⟩
  · have k4 : (x.there == y.there) = true := by rw [hth]; simp
    have k10 : (lv == mv) = true := by rw [hlm]; simp
    have CS := fun u k1 k2 => hZ (xpq x.val y.val lv mv u k1 k2)
    rw [k10] at CS; clear hth hlm k10; go_upto_region 2 with fail; refine Xv ?_; refine Xdu ?_; refine Xf0 ?_; refine X5 ?_; refine Xdu ?_; refine Xf1 ?_; refine X5 ?_; refine xaa rfl _ (xpr _ _ rfl x.there y.there rfl rfl Tryz.underlying4 k4) ?_; refine X17 ?_; refine Xf2 ?_; refine X5 ?_; refine Xf3 ?_; refine X5 ?_; refine Xf2 ?_; refine X5 ?_; refine Xf4 ?_; refine X5p ?_; intro K hK; refine xad cf65 rfl _ rfl ?_; refine X1z ?_; refine Xf5 ?_; rintro e w ⟨rfl, rfl⟩; refine X21 ?_; clear hK K; refine X2c ?_; go_upto_region 3 with fail; refine Xbx ?_; refine X1c ?_; go_wp2_with fail; go_ret; exact ⟨rfl, HBK _ _ HL⟩
  · have CX := fun W k1 k2 => hZ (xuh c t u W k1 k2 hn1 hn2)
    cases hth : (x.there == y.there) with
    | true =>
      have k10 : (lv == mv) = false := by
        refine nB fun e => hns ⟨eq_of_beq hth, e⟩
      have CS := fun u k1 k2 => hZ (xpq x.val y.val lv mv u k1 k2)
      rw [k10] at CS; clear k10 hns; go_upto_region 2 with fail; refine Xv ?_; refine Xdu ?_; refine Xf0 ?_; refine X5 ?_; refine Xdu ?_; refine Xf1 ?_; refine Xf6 ?_; refine X17 ?_; refine Xf2 ?_; refine X5 ?_; refine Xf3 ?_; refine X5 ?_; refine Xf2 ?_; refine X5 ?_; refine Xf4 ?_; refine X5p ?_; intro K hK; refine xad cf65 rfl _ rfl ?_; refine X1z ?_; refine Xf5 ?_; rintro e w ⟨rfl, rfl⟩; refine X21 ?_; clear hK K; refine X2c ?_; go_upto_region 4 with fail; refine Xf7 ?_; refine X5p ?_; intro K hK; refine xad cf66 rfl _ rfl ?_; refine Xf8 ?_; refine X4c ?_; intro w HL; rw [hcl]; refine X21 ?_; clear hK K; refine X1v ?_; go_wp2_with fail; go_ret; exact ⟨rfl, HBK _ _ HL⟩
    | false =>
      clear hns; go_upto_region 2 with fail; refine Xv ?_; refine Xdu ?_; refine Xf0 ?_; refine X5 ?_; refine Xdu ?_; refine Xf1 ?_; refine Xf6 ?_; refine X2h ?_; refine no_implicit_lambda% (X58 ?_); go_upto_region 4 with fail; refine Xf7 ?_; refine X5p ?_; intro K hK; refine xad cf66 rfl _ rfl ?_; refine Xf8 ?_; refine X4c ?_; intro w HL; rw [hcl]; refine X21 ?_; clear hK K; refine X1v ?_; go_wp2_with fail; go_ret; exact ⟨rfl, HBK _ _ HL⟩
theorem pfOf_ok (ds : List D32) (x : Nod) (h : ds.length ≤ 256) : (pfOf ds x).Ok := by
  refine ⟨by show (ds.map D32.l).length ≤ 256; rw [List.length_map]; exact h, fun s hs => ?_, fun k v e => ?_⟩
  · obtain ⟨d, _, rfl⟩ := List.mem_map.1 hs
    exact d.h
  · have e : finN x = some (k, v) := e
    unfold finN at e
    split at e
    · injection e with e
      injection e with e1 e2; subst e1 e2; exact ⟨x.key.h, x.val.h⟩
    · cases e
theorem encP_len (p : Pf) (h : p.Ok) : (encP tagE.l p).length ≤ 9000 := by
  have h1 := xgx tagE.l p.sides p.sides.length h.s32; have h2 := xd0 tagE.l p.sides p.sides.length
  have h3 : (endT p.fin).length ≤ 65 := by
    cases hf : p.fin with
    | none => simp [endT]
    | some x =>
      obtain ⟨k, v⟩ := x; obtain ⟨e1, e2⟩ := h.f32 k v hf; simp [endT, e1, e2]
  have h4 := h.few; unfold encP put2; simp only [qp, qr, qs]; omega
theorem vread_sv (root key : D32) (s : Sv) (l : List UInt8) (w : World) (h : Tx w s.A s.n s.c l) (hn : s.n ≤ 140737488351232) : Calls Tryz.prog 49 #[root.a, key.a, s.v] w (VRd w.heap.size w root key l) := xih root key _ _ _ l w h hn
def ClmO (N : Nat) (w0 : World) (root key : D32) (v : Sv) (lv : List UInt8) (good : Prop) (e : Ending) (w' : World) : Prop := ∃ (c : Clm) (ok : Bool), e = .returned (.tuple #[.agg c.cells.toArray, .bool ok]) ∧ Below N w0 w' ∧
  (ok = true → ∃ lw lb, ClmT w' c lw lb ∧ accC root key c.there lw lb = true ∧ (lw ≠ [] → c.val = v ∧ lw = lv) ∧ ∀ ad, c.byt.A = some ad → N ≤ ad.block) ∧ (good → ok = true)
def Good (root key : D32) (p : Prv) (ds : List D32) (lv : List UInt8) : Prop := p.sides.n ≤ 256 ∧ okN p.nod = true ∧ p.kind ≠ 2 ∧ ∃ z, sayP root.l key.l (pfOf ds p.nod) = some z ∧ ∀ d, z = some d → d = (tagV lv).l ∧ lv.length ≤ 1024
theorem xui (root key : D32) (p : Prv) (ds : List D32) (v : Sv) (lv : List UInt8) (w : World) (hv : Tx w v.A v.n v.c lv) (hbad : ¬ (p.sides.n ≤ 256 ∧ okN p.nod = true ∧ p.kind ≠ 2)) :
    Calls Tryz.prog 8 #[root.a, key.a, .agg p.cells.toArray, v.v] w (ClmO w.heap.size w root key v lv (Good root key p ds lv)) := by
  have HNG : Hid (¬ Good root key p ds lv) := hZ fun h => hbad ⟨h.1, h.2.1, h.2.2.1⟩
  have HV := hZ hv; have hvn := hv.len; clear hv; have HL := Loc.start w; obtain ⟨w0, rfl⟩ := eW w; go_enter Tryz.func8, Tryz.ntmps8; go_upto_region 0 with fail; refine Xcr ?_; clear HL; intro g4 g5 w HL; refine X5 ?_; refine X76 ?_; clear HL; intro g6 w HL; refine X5 ?_; refine xah zr39 rfl rfl HL ?_; clear HL; intro g8 w HL; refine X1c ?_; go_upto_region 1 with fail; refine Xv ?_; refine Xc0 ?_; refine X57 ?_; intro K hK; refine Xbr ?_; (with_reducible refine (xlz p hbad).mono ?_); rintro e w ⟨er, rfl, her, hb⟩; replace HL := HL.next hb; clear hb; refine X6o ?_; clear hK K; go_upto_region 2 with fail; refine Xv ?_; refine Xey ?_; refine X5 ?_; refine Xbz ?_; refine X4a ?_; intro K hK; refine Xcs ?_; (with_reducible refine (xih root key none 0 0 [] _ (xil _) (by omega)).mono ?_); rintro e w ⟨s, e2, rfl, hb, _⟩; replace HL := HL.next hb; clear hb
  refine X5c ?_; clear hK K; refine xah xom rfl rfl HL ?_; clear HL; intro g12 w HL; refine X5 ?_; refine Xcu ?_; refine X4k ?_; clear HL; intro w HL; go_upto_region 3 with fail; refine X14 ?_; refine Xa3 ?_; refine X2g ?_; refine X1l ?_; refine X2j ?_; refine no_implicit_lambda% (X2f ?_); refine X2b ?_; go_upto_region 4 with fail; refine Xf9 ?_; refine X5 ?_; refine Xfa ?_; refine X4k ?_; clear HL; intro w HL; go_wp2_with fail; refine Xf ?_; refine Xfb ?_; exact ⟨Clm.z, false, rfl, HL.below, fun e => (by cases e), fun h => absurd h HNG.out⟩
theorem xrd (root key : D32) (p : Prv) (ds : List D32) (hs : Sds w p.sides ds) (v : Sv) (lv : List UInt8) (hv : Tx w v.A v.n v.c lv) (hl : p.sides.n ≤ 256) (hok : okN p.nod = true) (hk : p.kind ≠ 2) :
    Calls Tryz.prog 8 #[root.a, key.a, .agg p.cells.toArray, v.v] w (ClmO w.heap.size w root key v lv (Good root key p ds lv)) := by
  have HS := hZ hs; have hpf : (pfOf ds p.nod).Ok := pfOf_ok ds p.nod (by have := hs.len; omega); have hdec := xsk (root := root.l) (key := key.l) (xt8 tagE.l (pfOf ds p.nod) hpf); have hel := encP_len _ hpf; clear hs; obtain ⟨lb, hlb⟩ : ∃ lb, encP tagE.l (pfOf ds p.nod) = lb := ⟨_, rfl⟩; rw [hlb] at hdec hel; have HLB := hZ hlb; clear hlb; have HV := hZ hv; have hvn := hv.len; clear hv; have HL := Loc.start w; obtain ⟨w0, rfl⟩ := eW w; go_enter Tryz.func8, Tryz.ntmps8; go_upto_region 0 with fail; refine Xcr ?_; clear HL; intro g4 g5 w HL; refine X5 ?_; refine X76 ?_; clear HL; intro g6 w HL; refine X5 ?_; refine xah zr39 rfl rfl HL ?_; clear HL; intro g8 w HL; refine X1c ?_; have HSW := HS.out.below HL.below; go_upto_region 1 with fail; refine Xv ?_; refine Xc0 ?_; refine X57 ?_; intro K hK; refine Xbr ?_; (with_reducible refine (xpe p ds HSW hl hok hk).mono ?_)
  rintro e w ⟨u, rfl, ho, hb⟩; rw [HLB.out] at ho; obtain ⟨G1, s1, rfl, hG1, HL1⟩ := HL.took hb ho; clear HL hb ho HSW; have HL := HL1; clear HL1; simp only [qm, qn] at HL; refine X6o ?_; clear hK K; have hs1 : s1.n ≤ 140737488351232 := by rw [hG1.len]; omega
  go_upto_region 2 with fail; refine Xv ?_; refine Xey ?_; refine X5 ?_; refine Xbz ?_; refine X4a ?_; intro K hK; refine Xcs ?_; (with_reducible refine (vread_sv root key s1 lb _ (hG1.tx (L0 := [_, _, _, _]) HL) hs1).mono ?_); rintro e w ⟨s, e2, rfl, hb, hx⟩; replace HL := HL.next hb; clear hb; refine X5c ?_; clear hK K; refine xah xom rfl rfl HL ?_; clear HL; intro g12 w HL; refine X5 ?_; refine Xcu ?_; refine X4k ?_; clear HL; intro w HL; rcases hx with ⟨rfl, hacc, hsz⟩ | ⟨he2, hacc, _⟩
  · obtain ⟨sth, sval⟩ := s
    cases sth with
    | true =>
      simp only [if_true] at hacc
      cases hpr : xf4 root key lv lb with
      | true =>
        have hl1024 : lv.length ≤ 1024 := by unfold xf4 at hpr; simp only [Bool.and_eq_true, decide_eq_true_eq] at hpr; exact hpr.1
        have CP := fun u k1 k2 => hZ (xgz root key v s1 lv lb u k1 k2 hs1)
        rw [hpr] at CP; have HPR := hZ hpr; clear hpr hacc hdec; go_upto_region 3 with fail; refine X94 ?_; refine X1o ?_; refine Xfc ?_; refine X5a ?_; refine Xcw ?_; refine X5 ?_; refine Xcx ?_; refine X2a ?_; refine Xdz ?_; refine Xcd ?_; refine X2a ?_; refine X1n ?_; refine X5o ?_; intro K hK; refine xad cf50 rfl _ rfl ?_; refine X1z ?_; refine Xfd ?_; refine X5x ?_; clear hK K; intro w HL; refine Xb0 ?_; refine X2d ?_; go_upto_region 5 with fail; refine Xv ?_; refine Xfe ?_; refine X5 ?_; refine Xff ?_; refine xaa rfl _ (xbf bs39 _ rfl _ (by exact xsa _ _)) ?_; refine X5 ?_; refine xah zr39 rfl rfl HL ?_; clear HL; intro g14 w HL; refine X5 ?_; refine Xfg ?_; refine X3j ?_; clear HL; intro w HL; go_upto_region 6 with fail; refine Xv ?_; refine Xfe ?_; refine X5 ?_; refine Xfh ?_; refine X22 ?_; go_upto_region 7 with fail; refine X14 ?_
        refine xaa rfl _ (xaf xmn _ rfl _ rfl) ?_; refine X5 ?_; refine xaw sc25 rfl _ _ rfl HL 0 _ _ _ _ _ _ rfl rfl rfl rfl (by rw [Clm.len]; decide) (Clm.s_val _ _) ?_; refine X3j ?_; clear HL; intro w HL; go_upto_region 8 with fail; refine Xv ?_; refine Xez ?_; refine Xfi ?_; refine X4k ?_; clear HL; intro w HL; go_wp2_with fail; refine Xf ?_; refine Xfj ?_; exact ⟨⟨true, v, s1⟩, true, rfl, HL.below, fun _ => ⟨lv, lb, ⟨HV.out.below HL.below, hG1.tx (L0 := [_, _, _, _, _, _]) HL, (by show v.n ≤ _; rw [← hvn]; omega), hs1, fun e => (by cases e)⟩, HPR.out, fun _ => ⟨rfl, rfl⟩, hG1.far (L0 := [_, _, _, _, _, _]) HL (fun k hk => hk)⟩, fun _ => rfl⟩
      | false =>
        have HNG : Hid (¬ Good root key p ds lv) := hZ <| by
          rintro ⟨_, _, _, z, hz, hz2⟩; rw [← hdec, hacc] at hz; injection hz with hz; subst hz; obtain ⟨h3, h4⟩ := hz2 _ rfl; unfold xf4 at hpr; rw [hacc, h3] at hpr; simp at hpr; omega
        have CP := fun u k1 k2 => hZ (xgz root key v s1 lv lb u k1 k2 hs1)
        rw [hpr] at CP; clear hpr hacc hdec; go_upto_region 3 with fail; refine X94 ?_; refine X1o ?_; refine Xfc ?_; refine X5a ?_; refine Xcw ?_; refine X5 ?_; refine Xcx ?_; refine X2a ?_; refine Xdz ?_; refine Xcd ?_; refine X2a ?_; refine X1n ?_; refine X5o ?_; intro K hK; refine xad cf50 rfl _ rfl ?_; refine X1z ?_; refine Xfd ?_; refine X5x ?_; clear hK K; intro w HL; refine Xbb ?_; refine X2d ?_; go_upto_region 4 with fail; refine Xf9 ?_; refine X5 ?_; refine Xfa ?_; refine X4k ?_; clear HL; intro w HL; go_wp2_with fail; refine Xf ?_; refine Xfb ?_; exact ⟨Clm.z, false, rfl, HL.below, fun e => (by cases e), fun h => absurd h HNG.out⟩
    | false =>
      simp only [Bool.false_eq_true, if_false] at hacc; have HAC : Hid (absB root key lb = true) := hZ (by unfold absB; rw [hacc]; simp); clear hacc hdec hsz; go_upto_region 3 with fail; refine X94 ?_; refine X1o ?_; refine Xfc ?_; refine X5a ?_; refine Xcw ?_; refine X5 ?_; refine Xcx ?_; refine X2a ?_; refine no_implicit_lambda% (X2i ?_); refine no_implicit_lambda% (X2f ?_); refine X3y ?_; go_upto_region 5 with fail; refine Xv ?_; refine Xfe ?_; refine X5 ?_; refine Xff ?_; refine xaa rfl _ (xbf bs39 _ rfl _ (by exact xsa _ _)) ?_; refine X5 ?_; refine xah zr39 rfl rfl HL ?_; clear HL; intro g14 w HL; refine X5 ?_; refine Xfg ?_; refine X3j ?_; clear HL; intro w HL; go_upto_region 6 with fail; refine Xv ?_; refine Xfe ?_; refine X5 ?_; refine Xfh ?_; refine X22 ?_; go_upto_region 8 with fail; refine Xv ?_; refine Xez ?_; refine Xfi ?_; refine X4k ?_; clear HL; intro w HL
      go_wp2_with fail; refine Xf ?_; refine Xfj ?_; exact ⟨⟨false, Sv.nil, s1⟩, true, rfl, HL.below, fun _ => ⟨[], lb, ⟨xil _, hG1.tx (L0 := [_, _, _, _, _, _]) HL, (by show 0 ≤ 140737488351231; omega), hs1, fun _ => rfl⟩, HAC.out, fun h => absurd rfl h, hG1.far (L0 := [_, _, _, _, _, _]) HL (fun k hk => hk)⟩, fun _ => rfl⟩
  · have HNG : Hid (¬ Good root key p ds lv) := hZ <| by
      rintro ⟨_, _, _, z, hz, hz2⟩; rw [← hdec, hacc] at hz; cases hz
    clear hacc hdec; go_upto_region 3 with fail; refine X94 ?_; refine X1o ?_; refine xab rfl _ (xbi (b := true) _ _ rfl _ _ rfl rfl he2) ?_; refine X27 ?_; refine X2j ?_; refine no_implicit_lambda% (X2f ?_); refine X2b ?_; go_upto_region 4 with fail; refine Xf9 ?_; refine X5 ?_; refine Xfa ?_; refine X4k ?_; clear HL; intro w HL; go_wp2_with fail; refine Xf ?_; refine Xfb ?_; exact ⟨Clm.z, false, rfl, HL.below, fun e => (by cases e), fun h => absurd h HNG.out⟩
theorem xgg (root key : D32) (p : Prv) (ds : List D32) (v : Sv) (lv : List UInt8) (w : World) (hs : Sds w p.sides ds) (hv : Tx w v.A v.n v.c lv) :
    Calls Tryz.prog 8 #[root.a, key.a, .agg p.cells.toArray, v.v] w (ClmO w.heap.size w root key v lv (Good root key p ds lv)) := by
  by_cases h : p.sides.n ≤ 256 ∧ okN p.nod = true ∧ p.kind ≠ 2
  · exact xrd root key p ds hs v lv hv h.1 h.2.1 h.2.2
  · exact xui root key p ds v lv w hv h
end
section
variable {w0 w w' : World} {D : Nat → Prop} {A B B' : List (Nat × Nat × List Value)}
theorem Loc.lend (H : Loc w0 D (A ++ B) w) : Loc w (Rest w B) B w := (H.drop B (sA _ _)).redo (Fr.refl (fun _ => False) _) (fun _ _ h => h)
theorem Loc.merge (H : Loc w0 D (A ++ B) w) (R : Loc w (Rest w B) B' w') : Loc w0 D (A ++ B') w' := by
  obtain ⟨p1, p2, p3⟩ := List.pairwise_append.1 H.nd; have hD : ∀ k, D k → Rest w B k := fun k hk => ⟨H.lt hk, fun x hx e => (H.own x (List.mem_append.2 (.inr hx))).1 (by rw [e]; exact hk)⟩
  have hA : ∀ x ∈ A, Rest w B x.1 := fun x hx => ⟨(H.own x (List.mem_append.2 (.inl hx))).2.lt, fun y hy e => p3 x hx y hy e.symm⟩
  refine ⟨⟨R.fr.os.trans H.fr.os, R.fr.tape.trans H.fr.tape, R.fr.output.trans H.fr.output, Nat.le_trans H.fr.size R.fr.size, fun k hk hn => ?_⟩, ?_, ?_, H.old⟩
  · have h1 : D k := Classical.not_not.1 hn
    exact (R.heap (hD k h1)).trans (H.heap h1)
  · intro x hx
    rcases List.mem_append.1 hx with hx | hx
    · have h2 := H.own x (List.mem_append.2 (.inl hx))
      exact ⟨h2.1, R.far (hA x hx) h2.2⟩
    · have h2 := R.own x hx
      exact ⟨fun hd => h2.1 (hD _ hd), h2.2⟩
  · refine List.pairwise_append.2 ⟨p1, R.nd, fun x hx y hy e => ?_⟩
    have h2 := (R.own y hy).1; rw [← e] at h2; exact h2 (hA x hx)
end
def xa9 (b : Brv) : Bool := if b.kind = 0 ∨ b.kind = 2 then xl3 b ⟨b.kind, D32.z, D32.z, D32.z⟩ else if b.kind = 1 then b.dig.l == D32.z.l else if b.kind = 3 then xl3 b ⟨3, D32.z, D32.z, b.dig⟩ else false
theorem xps (b : Brv) (w : World) : Calls Tryz.prog 108 #[.agg b.cells.toArray] w fun e w' => e = .returned (.bool (xa9 b)) ∧ Below w.heap.size w w' := by
  have HL := Loc.start w; obtain ⟨w0, rfl⟩ := eW w; obtain ⟨r, hr⟩ : ∃ r, xa9 b = r := ⟨_, rfl⟩; rw [hr]; unfold xa9 at hr; by_cases h0 : b.kind = 0
  · rw [if_pos (.inl h0)] at hr
    have k0 : ((b.kind : Int) == 0) = true := by rw [h0]; rfl
    clear h0; go_enter Tryz.func108, Tryz.ntmps108; go_upto_region 0 with fail; refine X7t ?_; clear HL; intro g1 w HL; go_upto_region 1 with fail; refine Xfm ?_; go_upto_region 2 with fail; refine Xv ?_; refine Xfn ?_; refine X1c ?_; go_upto_region 4 with fail; refine Xfr ?_; refine X5 ?_; refine Xft ?_; go_wp2_with fail; go_ret; exact ⟨rfl, HL.below⟩
  have k0 : ((b.kind : Int) == 0) = false := nB (by omega); by_cases h2 : b.kind = 2
  · rw [if_pos (.inr h2)] at hr
    have k2 : ((b.kind : Int) == 2) = true := by rw [h2]; rfl
    clear h0 h2; go_enter Tryz.func108, Tryz.ntmps108; go_upto_region 0 with fail; refine X7t ?_; clear HL; intro g1 w HL; go_upto_region 1 with fail; refine Xfm ?_; go_upto_region 2 with fail; refine Xfu ?_; go_upto_region 3 with fail; refine Xv ?_; refine Xfv ?_; refine X1c ?_; go_upto_region 4 with fail; refine Xfr ?_; refine X5 ?_; refine Xft ?_; go_wp2_with fail; go_ret; exact ⟨rfl, HL.below⟩
  have k2 : ((b.kind : Int) == 2) = false := nB (by omega); rw [if_neg (by omega)] at hr; by_cases h1 : b.kind = 1
  · rw [if_pos h1] at hr
    have k1 : ((b.kind : Int) == 1) = true := by rw [h1]; rfl
    clear h0 h2 h1; go_enter Tryz.func108, Tryz.ntmps108; go_upto_region 0 with fail; refine X7t ?_; clear HL; intro g1 w HL; go_upto_region 1 with fail; refine Xfm ?_; go_upto_region 2 with fail; refine Xfu ?_; go_upto_region 3 with fail; refine Xfx ?_; go_upto_region 5 with fail; refine Xv ?_; refine Xfy ?_; refine X1c ?_; go_upto_region 6 with fail; refine Xg1 ?_; refine X5 ?_; refine Xc2 ?_; refine X5 ?_; refine Xg2 ?_; refine X1c ?_; go_wp2_with fail; go_ret; exact ⟨rfl, HL.below⟩
  have k1 : ((b.kind : Int) == 1) = false := nB (by omega); rw [if_neg h1] at hr; by_cases h3 : b.kind = 3
  · rw [if_pos h3] at hr
    have k3 : ((b.kind : Int) == 3) = true := by rw [h3]; rfl
    clear h0 h2 h1 h3; go_enter Tryz.func108, Tryz.ntmps108; go_upto_region 0 with fail; refine X7t ?_; clear HL; intro g1 w HL; go_upto_region 1 with fail; refine Xfm ?_; go_upto_region 2 with fail; refine Xfu ?_; go_upto_region 3 with fail; refine Xfx ?_; go_upto_region 5 with fail; refine Xv ?_; refine Xg3 ?_; go_upto_region 7 with fail; refine Xv ?_; refine Xg4 ?_; refine X1c ?_; go_upto_region 8 with fail; refine Xfq ?_; refine Xg0 ?_; refine X5 ?_; refine Xg5 ?_; refine X5 ?_; refine Xg6 ?_; refine X1c ?_; go_wp2_with fail; go_ret; exact ⟨rfl, HL.below⟩
  have k3 : ((b.kind : Int) == 3) = false := nB (by omega); rw [if_neg h3] at hr; subst hr; clear h0 h2 h1 h3; go_enter Tryz.func108, Tryz.ntmps108; go_upto_region 0 with fail; refine X7t ?_; clear HL; intro g1 w HL; go_upto_region 1 with fail; refine Xfm ?_; go_upto_region 2 with fail; refine Xfu ?_; go_upto_region 3 with fail; refine Xfx ?_; go_upto_region 5 with fail; refine Xv ?_; refine Xg3 ?_; go_upto_region 7 with fail; refine Xv ?_; refine Xg7 ?_; refine X1c ?_; go_upto_region 9 with fail; refine X1k ?_; go_wp2_with fail; go_ret; exact ⟨rfl, HL.below⟩
theorem xix (b : Brv) (w : World) : Calls Tryz.prog 166 #[.agg b.cells.toArray] w fun e w' => e = .returned (.bool (xa9 b)) ∧ Below w.heap.size w w' := by
  have HL := Loc.start w; obtain ⟨w0, rfl⟩ := eW w; obtain ⟨r, hr⟩ : ∃ r, xa9 b = r := ⟨_, rfl⟩; rw [hr]; unfold xa9 at hr; by_cases h0 : b.kind = 0
  · rw [if_pos (.inl h0)] at hr
    have k0 : ((b.kind : Int) == 0) = true := by rw [h0]; rfl
    clear h0; go_enter Tryz.func166, Tryz.ntmps166; go_upto_region 0 with fail; refine X7t ?_; clear HL; intro g1 w HL; go_upto_region 1 with fail; refine Xfm ?_; go_upto_region 2 with fail; refine Xv ?_; refine Xfn ?_; refine X1c ?_; go_upto_region 4 with fail; refine Xfr ?_; refine X5 ?_; refine Xft ?_; go_wp2_with fail; go_ret; exact ⟨rfl, HL.below⟩
  have k0 : ((b.kind : Int) == 0) = false := nB (by omega); by_cases h2 : b.kind = 2
  · rw [if_pos (.inr h2)] at hr
    have k2 : ((b.kind : Int) == 2) = true := by rw [h2]; rfl
    clear h0 h2; go_enter Tryz.func166, Tryz.ntmps166; go_upto_region 0 with fail; refine X7t ?_; clear HL; intro g1 w HL; go_upto_region 1 with fail; refine Xfm ?_; go_upto_region 2 with fail; refine Xfu ?_; go_upto_region 3 with fail; refine Xv ?_; refine Xfv ?_; refine X1c ?_; go_upto_region 4 with fail; refine Xfr ?_; refine X5 ?_; refine Xft ?_; go_wp2_with fail; go_ret; exact ⟨rfl, HL.below⟩
  have k2 : ((b.kind : Int) == 2) = false := nB (by omega); rw [if_neg (by omega)] at hr; by_cases h1 : b.kind = 1
  · rw [if_pos h1] at hr
    have k1 : ((b.kind : Int) == 1) = true := by rw [h1]; rfl
    clear h0 h2 h1; go_enter Tryz.func166, Tryz.ntmps166; go_upto_region 0 with fail; refine X7t ?_; clear HL; intro g1 w HL; go_upto_region 1 with fail; refine Xfm ?_; go_upto_region 2 with fail; refine Xfu ?_; go_upto_region 3 with fail; refine Xfx ?_; go_upto_region 5 with fail; refine Xv ?_; refine Xfy ?_; refine X1c ?_; go_upto_region 6 with fail; refine Xg1 ?_; refine X5 ?_; refine Xc2 ?_; refine X5 ?_; refine Xg2 ?_; refine X1c ?_; go_wp2_with fail; go_ret; exact ⟨rfl, HL.below⟩
  have k1 : ((b.kind : Int) == 1) = false := nB (by omega); rw [if_neg h1] at hr; by_cases h3 : b.kind = 3
  · rw [if_pos h3] at hr
    have k3 : ((b.kind : Int) == 3) = true := by rw [h3]; rfl
    clear h0 h2 h1 h3; go_enter Tryz.func166, Tryz.ntmps166; go_upto_region 0 with fail; refine X7t ?_; clear HL; intro g1 w HL; go_upto_region 1 with fail; refine Xfm ?_; go_upto_region 2 with fail; refine Xfu ?_; go_upto_region 3 with fail; refine Xfx ?_; go_upto_region 5 with fail; refine Xv ?_; refine Xg3 ?_; go_upto_region 7 with fail; refine Xv ?_; refine Xg4 ?_; refine X1c ?_; go_upto_region 8 with fail; refine Xfq ?_; refine Xg0 ?_; refine X5 ?_; refine Xg5 ?_; refine X5 ?_; refine Xg6 ?_; refine X1c ?_; go_wp2_with fail; go_ret; exact ⟨rfl, HL.below⟩
  have k3 : ((b.kind : Int) == 3) = false := nB (by omega); rw [if_neg h3] at hr; subst hr; clear h0 h2 h1 h3; go_enter Tryz.func166, Tryz.ntmps166; go_upto_region 0 with fail; refine X7t ?_; clear HL; intro g1 w HL; go_upto_region 1 with fail; refine Xfm ?_; go_upto_region 2 with fail; refine Xfu ?_; go_upto_region 3 with fail; refine Xfx ?_; go_upto_region 5 with fail; refine Xv ?_; refine Xg3 ?_; go_upto_region 7 with fail; refine Xv ?_; refine Xg7 ?_; refine X1c ?_; go_upto_region 9 with fail; refine X1k ?_; go_wp2_with fail; go_ret; exact ⟨rfl, HL.below⟩
theorem xiy (b : Brv) (w : World) : Calls Tryz.prog 170 #[.agg b.cells.toArray] w fun e w' => e = .returned (.bool (xa9 b)) ∧ Below w.heap.size w w' := by
  have HL := Loc.start w; obtain ⟨w0, rfl⟩ := eW w; obtain ⟨r, hr⟩ : ∃ r, xa9 b = r := ⟨_, rfl⟩; rw [hr]; unfold xa9 at hr; by_cases h0 : b.kind = 0
  · rw [if_pos (.inl h0)] at hr
    have k0 : ((b.kind : Int) == 0) = true := by rw [h0]; rfl
    clear h0; go_enter Tryz.func170, Tryz.ntmps170; go_upto_region 0 with fail; refine X7t ?_; clear HL; intro g1 w HL; go_upto_region 1 with fail; refine Xfm ?_; go_upto_region 2 with fail; refine Xv ?_; refine Xfn ?_; refine X1c ?_; go_upto_region 4 with fail; refine Xfr ?_; refine X5 ?_; refine Xft ?_; go_wp2_with fail; go_ret; exact ⟨rfl, HL.below⟩
  have k0 : ((b.kind : Int) == 0) = false := nB (by omega); by_cases h2 : b.kind = 2
  · rw [if_pos (.inr h2)] at hr
    have k2 : ((b.kind : Int) == 2) = true := by rw [h2]; rfl
    clear h0 h2; go_enter Tryz.func170, Tryz.ntmps170; go_upto_region 0 with fail; refine X7t ?_; clear HL; intro g1 w HL; go_upto_region 1 with fail; refine Xfm ?_; go_upto_region 2 with fail; refine Xfu ?_; go_upto_region 3 with fail; refine Xv ?_; refine Xfv ?_; refine X1c ?_; go_upto_region 4 with fail; refine Xfr ?_; refine X5 ?_; refine Xft ?_; go_wp2_with fail; go_ret; exact ⟨rfl, HL.below⟩
  have k2 : ((b.kind : Int) == 2) = false := nB (by omega); rw [if_neg (by omega)] at hr; by_cases h1 : b.kind = 1
  · rw [if_pos h1] at hr
    have k1 : ((b.kind : Int) == 1) = true := by rw [h1]; rfl
    clear h0 h2 h1; go_enter Tryz.func170, Tryz.ntmps170; go_upto_region 0 with fail; refine X7t ?_; clear HL; intro g1 w HL; go_upto_region 1 with fail; refine Xfm ?_; go_upto_region 2 with fail; refine Xfu ?_; go_upto_region 3 with fail; refine Xfx ?_; go_upto_region 5 with fail; refine Xv ?_; refine Xfy ?_; refine X1c ?_; go_upto_region 6 with fail; refine Xg1 ?_; refine X5 ?_; refine Xc2 ?_; refine X5 ?_; refine Xg2 ?_; refine X1c ?_; go_wp2_with fail; go_ret; exact ⟨rfl, HL.below⟩
  have k1 : ((b.kind : Int) == 1) = false := nB (by omega); rw [if_neg h1] at hr; by_cases h3 : b.kind = 3
  · rw [if_pos h3] at hr
    have k3 : ((b.kind : Int) == 3) = true := by rw [h3]; rfl
    clear h0 h2 h1 h3; go_enter Tryz.func170, Tryz.ntmps170; go_upto_region 0 with fail; refine X7t ?_; clear HL; intro g1 w HL; go_upto_region 1 with fail; refine Xfm ?_; go_upto_region 2 with fail; refine Xfu ?_; go_upto_region 3 with fail; refine Xfx ?_; go_upto_region 5 with fail; refine Xv ?_; refine Xg3 ?_; go_upto_region 7 with fail; refine Xv ?_; refine Xg4 ?_; refine X1c ?_; go_upto_region 8 with fail; refine Xfq ?_; refine Xg0 ?_; refine X5 ?_; refine Xg5 ?_; refine X5 ?_; refine Xg6 ?_; refine X1c ?_; go_wp2_with fail; go_ret; exact ⟨rfl, HL.below⟩
  have k3 : ((b.kind : Int) == 3) = false := nB (by omega); rw [if_neg h3] at hr; subst hr; clear h0 h2 h1 h3; go_enter Tryz.func170, Tryz.ntmps170; go_upto_region 0 with fail; refine X7t ?_; clear HL; intro g1 w HL; go_upto_region 1 with fail; refine Xfm ?_; go_upto_region 2 with fail; refine Xfu ?_; go_upto_region 3 with fail; refine Xfx ?_; go_upto_region 5 with fail; refine Xv ?_; refine Xg3 ?_; go_upto_region 7 with fail; refine Xv ?_; refine Xg7 ?_; refine X1c ?_; go_upto_region 9 with fail; refine X1k ?_; go_wp2_with fail; go_ret; exact ⟨rfl, HL.below⟩
theorem xkt {P : Program} {w : World} {a : Act} {o : Oper} {t t' : TypeId} (x y : Operand) (ho : o.op = .binOp .add t x y t') (m n : Int) (hx : a.eval x = .int .i64 m) (hy : a.eval y = .int .i64 n) :
    (execOp a.eval o).run P w = .ok (.value (.int .i64 (IntKind.i64.wrap (m + n)))) w := by
  unfold execOp; simp only [ho, hx, hy]; go_simp
abbrev ivs (zs : List Int) : List Value := zs.map (Value.int .i64)
def DpO (w0 : World) (B : List (Nat × Nat × List Value)) (gd n : Nat) (e : Ending) (w' : World) : Prop := ∃ (b : Bool) (G' : List (Nat × Nat × List Value)) (sv' : Sv) (zs' : List Int), e = .returned (.bool b) ∧ Gw 3 1 G' sv' zs'.length (ivs zs') ∧ zs'.length ≤ n + 1 ∧ Loc w0 (Rest w0 B) ((gd, 192, [Sv.v sv']) :: (G' ++ [])) w'
section
variable {w w' : World}
theorem xuj (gd k : Nat) (w : World) (G : List (Nat × Nat × List Value)) (sv : Sv) (hG : Gw 3 1 G sv ([] : List Int).length (ivs [])) (H : Loc w (Rest w ((gd, 192, [Sv.v sv]) :: (G ++ []))) ((gd, 192, [Sv.v sv]) :: (G ++ [])) w) :
    Calls Tryz.prog 106 #[.pointer (some ⟨gd, 0, none⟩), .int .u8 (k : Int)] w (DpO w ((gd, 192, [Sv.v sv]) :: (G ++ [])) gd 0) := by
  have k2 : ((sv.n : Int) == 0) = true := by rw [hG.len]; rfl
  obtain ⟨w0, hw0⟩ : ∃ w0, w0 = w := ⟨_, rfl⟩; have HL := H; clear H; obtain ⟨B, hB⟩ : ∃ B, (gd, 192, [Sv.v sv]) :: (G ++ []) = B := ⟨_, rfl⟩; rw [hB] at HL ⊢; have hbd : (gd, 192, [Sv.v sv]) ∈ B := by rw [← hB]; exact .head _
  go_enter Tryz.func106, Tryz.ntmps106; go_upto_region 0 with fail; refine X1k ?_; go_upto_region 1 with fail; refine X16 ?_; refine xaa rfl _ (xag xjy HL _ rfl _ _ rfl _ _ _ hbd rfl) ?_; refine X5 ?_; refine Xg8 ?_; refine X1c ?_; go_upto_region 2 with fail; refine X14 ?_; refine Xfv ?_; refine X22 ?_; go_upto_region 3 with fail; refine X1k ?_; go_wp2_with fail; go_ret; exact ⟨false, G, sv, [], rfl, hG, Nat.zero_le _, by rw [hB]; exact HL⟩
theorem xuk (gd k : Nat) (w : World) (g cap : Nat) (zs : List Int) (z : Int) (tl : List Value) (B : List (Nat × Nat × List Value)) (hB : B = (gd, 192, [Value.slice (some ⟨g, 0, none⟩) (zs.length + 1) cap]) :: (g, 3, ivs zs ++ (.int .i64 z :: tl)) :: []) (hcap : zs.length + 1 ≤ cap ∧ cap ≤ maxLen ∧ zs.length + 1 + tl.length = cap) (hz : zs.length ≤ 1000000000)
    (H : Loc w (Rest w B) B w) : Calls Tryz.prog 106 #[.pointer (some ⟨gd, 0, none⟩), .int .u8 (k : Int)] w (DpO w B gd (zs.length + 1)) := by
  have HL := H; clear H; generalize hRD : Rest w B = RD at HL; have HRD := hZ hRD; clear hRD; rw [hB] at HL; have HBB := hZ hB; clear hB; obtain ⟨w0, rfl⟩ := eW w; have HI : Hid (((zs.length + 1 : Nat) : Int) - 1 = (zs.length : Int)) := hZ (by omega); have hcell : (ivs zs ++ (Value.int .i64 z :: tl))[zs.length * 1]? = some (.int .i64 z) := by rw [Nat.mul_one]; simp
  have HNL : Hid (zs.length + 1 = zs.length + 1) := hZ rfl; have k2 : (((zs.length + 1 : Nat) : Int) == 0) = false := nB (by omega); generalize hn1 : zs.length + 1 = n1 at HL HI k2; have HN1 := hZ hn1; clear hn1 HNL; have hlt : zs.length < n1 := by have := HN1.out; omega
  go_enter Tryz.func106, Tryz.ntmps106; go_upto_region 0 with fail; refine X1k ?_; go_upto_region 1 with fail; refine X16 ?_; refine Xg9 ?_; refine X5 ?_; refine Xg8 ?_; refine X1c ?_; go_upto_region 2 with fail; refine X14 ?_; refine Xfw ?_; refine X22 ?_; go_upto_region 4 with fail; refine X16 ?_; refine Xg9 ?_; refine X17 ?_; refine X96 ?_; refine X5 ?_; refine xaa rfl _ (xbe xok _ _ rfl g n1 cap zs.length .i64 rfl rfl hlt) ?_; refine X5 ?_; refine xaa rfl _ (xag sc3 HL _ rfl _ _ rfl _ _ _ (.tail _ (.head _)) hcell) ?_; refine X1c ?_; go_upto_region 5 with fail; refine X3o ?_; refine Xg9 ?_; refine X17 ?_; refine X96 ?_; refine X5 ?_; refine xaa rfl _ (xdv xok _ _ rfl (some ⟨g, 0, none⟩) n1 cap zs.length .i64 rfl rfl (by omega)) ?_; refine X18 ?_; refine Xga ?_; refine X3j ?_; clear HL; intro w HL
  have hG : Gw 3 1 [(g, 3, ivs zs ++ (Value.int .i64 z :: tl))] ⟨some ⟨g, 0, none⟩, zs.length, cap⟩ zs.length (ivs zs) := ⟨by simp [ivs], .inr ⟨g, cap, Value.int .i64 z :: tl, rfl, rfl, by omega, hcap.2.1, by simp [ivs]; omega⟩⟩; by_cases hk : k = 2
  · have k6 : ((k : Int) == 2) = true := by rw [hk]; rfl
    clear hk; go_upto_region 6 with fail; refine X14 ?_; refine xaa rfl _ (xao (b := true) _ _ rfl _ _ rfl rfl k6) ?_; refine X22 ?_; go_upto_region 7 with fail; refine X3o ?_; refine Xg9 ?_; refine X17 ?_; refine xaa rfl _ (xkt _ _ rfl _ _ rfl rfl) ?_; refine X17 ?_; refine xaa rfl _ (xkt _ _ rfl _ _ rfl rfl) ?_; refine X57 ?_; intro K hK; refine xds xok el3 2 _ rfl HL [.int .i64 (IntKind.i64.wrap (z + 1)), .int .i64 (IntKind.i64.wrap (z + 1))] (by simp [Value.oneCell']) rfl (by omega) (by omega) (by simp [Act.eval]) ?_; clear HL; intro g38 w HL; refine Xa7 ?_; clear hK K; intro K hK
    refine xam xok el3 _ _ rfl [_, _] _ ⟨some ⟨g, 0, none⟩, zs.length, cap⟩ _ hG HL rfl ⟨g38, 0, none⟩ 2 2 (ivs [IntKind.i64.wrap (z + 1), IntKind.i64.wrap (z + 1)]) rfl (Rd.of_blk0 (es := []) (by simpa using HL.blk (.head _))) rfl (by simp [ivs, Value.oneCell']) (by omega) (by omega) (by omega) ?_; clear HL; intro sv' G' w hG' HL; simp only [qm, qn] at HL; refine Xa6 ?_; clear hK K; refine X15 ?_; refine xaw xjy rfl _ _ rfl HL 1 gd 0 192 _ [Sv.v sv'] (Sv.v sv') rfl rfl rfl rfl (by simp) rfl ?_; refine X2y ?_; clear HL; intro w HL; go_upto_region 8 with fail; refine X14 ?_; refine xaa rfl _ (xcj _ _ rfl _ _ rfl rfl rfl) ?_; refine X1c ?_; go_wp2_with fail; go_ret; refine ⟨_, G', sv', zs ++ [IntKind.i64.wrap (z + 1), IntKind.i64.wrap (z + 1)], rfl, ?_, by simp; have := HN1.out; omega, ?_⟩
    · rw [List.length_append]
      have e : ivs (zs ++ [IntKind.i64.wrap (z + 1), IntKind.i64.wrap (z + 1)]) = ivs zs ++ ivs [IntKind.i64.wrap (z + 1), IntKind.i64.wrap (z + 1)] := by simp [ivs]
      rw [e]; exact hG'
    · rw [HRD.out]; exact HL.drop _ (sB _ _)
  · have k6 : ((k : Int) == 2) = false := nB (by omega)
    clear hk; go_upto_region 6 with fail; refine X14 ?_; refine xaa rfl _ (xao (b := false) _ _ rfl _ _ rfl rfl k6) ?_; refine X22 ?_; go_upto_region 9 with fail; refine X1k ?_; go_wp2_with fail; go_ret; exact ⟨true, _, ⟨some ⟨g, 0, none⟩, zs.length, cap⟩, zs, rfl, hG, by omega, by rw [HRD.out]; exact HL⟩
theorem xpt (gd k : Nat) (w : World) (G : List (Nat × Nat × List Value)) (sv : Sv) (zs : List Int) (hG : Gw 3 1 G sv zs.length (ivs zs)) (hz : zs.length ≤ 1000000000) (H : Loc w (Rest w ((gd, 192, [Sv.v sv]) :: (G ++ []))) ((gd, 192, [Sv.v sv]) :: (G ++ [])) w) :
    Calls Tryz.prog 106 #[.pointer (some ⟨gd, 0, none⟩), .int .u8 (k : Int)] w (DpO w ((gd, 192, [Sv.v sv]) :: (G ++ [])) gd zs.length) := by
  rcases List.eq_nil_or_concat zs with rfl | ⟨zs1, z, rfl⟩
  · exact xuj gd k w G sv hG H
  · obtain ⟨hl, ⟨_, _, h0⟩ | ⟨g, cap, tl, rfl, rfl, h1, h2, h3⟩⟩ := hG
    · simp at h0
    · have el : (zs1.concat z).length = zs1.length + 1 := by simp
      have ev : ivs (zs1.concat z) ++ tl = ivs zs1 ++ (Value.int .i64 z :: tl) := by simp [ivs]
      rw [ev, el] at H ⊢; rw [ev] at h3; rw [el] at h1 hz; refine xuk gd k w g cap zs1 z tl _ rfl ⟨h1, h2, ?_⟩ (by omega) H; simp [ivs] at h3; omega
end
end Go.Proofs.YtkjjdgnkelchfaaGreat
