import Derived.Test.YtkjjdgnkelchfaaGreatPTU10
set_option linter.unusedSimpArgs false
set_option linter.unusedVariables false
set_option maxRecDepth 100000
set_option maxHeartbeats 16000000
namespace Go.Proofs.YtkjjdgnkelchfaaGreat
open Go Go.RowKit
section
variable {w w' : World}
theorem xne (p : Prv) (hl : 256 < p.sides.n) : Calls Tryz.prog 100 #[.agg p.cells.toArray] w fun e w' => e = .returned (.int .i64 4) ∧ Below w.heap.size w w' := by
  have k1 : decide ((256 : Int) < (p.sides.n : Int)) = true := by simp; omega
  clear hl; have HL := Loc.start w; obtain ⟨w0, rfl⟩ := eW w; go_enter Tryz.func100, Tryz.ntmps100; go_upto_region 0 with fail; refine X7t ?_; clear HL; intro g1 w HL; go_upto_region 1 with fail; refine X8n ?_; refine X5 ?_; refine X8o ?_; refine X1c ?_; go_upto_region 2 with fail; refine X1k ?_; go_wp2_with fail; go_ret; exact ⟨rfl, HL.below⟩
theorem xo2 (p : Prv) (hl : p.sides.n ≤ 256) (hn : okN p.nod = false) : Calls Tryz.prog 100 #[.agg p.cells.toArray] w fun e w' => e = .returned (.int .i64 2) ∧ Below w.heap.size w w' := by
  have k1 : decide ((256 : Int) < (p.sides.n : Int)) = false := by simp; omega
  clear hl; have HL := Loc.start w; obtain ⟨w0, rfl⟩ := eW w; go_enter Tryz.func100, Tryz.ntmps100; go_upto_region 0 with fail; refine X7t ?_; clear HL; intro g1 w HL; go_upto_region 1 with fail; refine X8n ?_; refine X5 ?_; refine X8o ?_; refine X1c ?_; go_upto_region 3 with fail; refine X8q ?_; refine X8r ?_; refine X57 ?_; intro K hK; refine X8e ?_; refine X1z ?_; (with_reducible refine (xt2 p.nod hn _).mono ?_); refine X5x ?_; clear hK K; intro w HL; refine X8s ?_; refine X8t ?_; go_upto_region 4 with fail; refine X1k ?_; go_wp2_with fail; go_ret; exact ⟨rfl, HL.below⟩
theorem xld (p : Prv) (hl : p.sides.n ≤ 256) (hn : okN p.nod = true) (hk : p.kind = 2) : Calls Tryz.prog 100 #[.agg p.cells.toArray] w fun e w' => e = .returned (.int .i64 2) ∧ Below w.heap.size w w' := by
  have k1 : decide ((256 : Int) < (p.sides.n : Int)) = false := by simp; omega
  have k2 : ((p.kind : Int) == 2) = true := by rw [hk]; rfl
  clear hl hk; have HL := Loc.start w; obtain ⟨w0, rfl⟩ := eW w; go_enter Tryz.func100, Tryz.ntmps100; go_upto_region 0 with fail; refine X7t ?_; clear HL; intro g1 w HL; go_upto_region 1 with fail; refine X8n ?_; refine X5 ?_; refine X8o ?_; refine X1c ?_; go_upto_region 3 with fail; refine X8q ?_; refine X8r ?_; refine X57 ?_; intro K hK; refine X8e ?_; refine X1z ?_; (with_reducible refine (xkd p.nod hn _).mono ?_); refine X5x ?_; clear hK K; intro w HL; refine X8u ?_; refine X17 ?_; refine X8v ?_; refine X8w ?_; refine X5 ?_; refine X8x ?_; go_upto_region 4 with fail; refine X1k ?_; go_wp2_with fail; go_ret; exact ⟨rfl, HL.below⟩
theorem xkf (p : Prv) (hl : p.sides.n ≤ 256) (hn : okN p.nod = true) (hk : p.kind ≠ 2) : Calls Tryz.prog 100 #[.agg p.cells.toArray] w fun e w' => e = .returned (.int .i64 0) ∧ Below w.heap.size w w' := by
  have k1 : decide ((256 : Int) < (p.sides.n : Int)) = false := by simp; omega
  have k2 : ((p.kind : Int) == 2) = false := by simp; omega
  clear hl hk; have HL := Loc.start w; obtain ⟨w0, rfl⟩ := eW w; go_enter Tryz.func100, Tryz.ntmps100; go_upto_region 0 with fail; refine X7t ?_; clear HL; intro g1 w HL; go_upto_region 1 with fail; refine X8n ?_; refine X5 ?_; refine X8o ?_; refine X1c ?_; go_upto_region 3 with fail; refine X8q ?_; refine X8r ?_; refine X57 ?_; intro K hK; refine X8e ?_; refine X1z ?_; (with_reducible refine (xkd p.nod hn _).mono ?_); refine X5x ?_; clear hK K; intro w HL; refine X8u ?_; refine X17 ?_; refine X8v ?_; refine X8w ?_; refine X5 ?_; refine X8x ?_; go_upto_region 5 with fail; refine X1k ?_; go_wp2_with fail; go_ret; exact ⟨rfl, HL.below⟩
end
theorem xiv (w : World) (n : Nat) (hn : n ≤ 65535) : Calls Tryz.prog 98 #[.int .i64 (n : Int)] w fun e w' => e = .returned (.int .i64 (((n + 7) / 8 : Nat) : Int)) ∧ w = w' := by
  have HI : Hid ((n : Int) + 7 = ((n + 7 : Nat) : Int)) := hZ (by omega); have HL := Loc.start w; go_enter Tryz.func98, Tryz.ntmps98; go_upto_region 0 with fail; refine X1k ?_; go_upto_region 1 with fail; refine X8z ?_; refine X1v ?_; go_wp2_with fail; go_ret
  have e : IntKind.i64.wrap (((n : Int) + 7).tdiv 8) = (((n + 7) / 8 : Nat) : Int) := by
    rw [Int.tdiv_eq_ediv_of_nonneg (by omega), IntWalk.i64_in _ (by omega)]; omega
  exact ⟨congrArg (fun z => Ending.returned (Value.int .i64 z)) e, rfl⟩
structure Sds (w : World) (v : Sv) (ds : List D32) : Prop where
  rd : Rd w v.A (ds.flatMap D32.c)
  len : ds.length = v.n
  cap : v.n ≤ v.c
theorem Sds.below {w w' : World} {v : Sv} {ds : List D32} (h : Sds w v ds) (hb : Below w.heap.size w w') : Sds w' v ds := ⟨h.rd.below hb, h.len, h.cap⟩
theorem Sds.at_ {w : World} {v : Sv} {ds : List D32} (h : Sds w v ds) (i : Nat) (hi : i < ds.length) : ∃ ad, v.A = some ad ∧ Rd w (some (ad.add (i * 32))) ds[i].c := by
  obtain ⟨ad, e, _⟩ := h.rd (by rw [xbx D32.cl]; omega); refine ⟨ad, e, ?_⟩; have h2 := h.rd.cut (i * 32) 32; rw [e] at h2; have h3 := xda (f := D32.c) D32.cl ds [] i hi; rw [List.append_nil] at h3; rw [h3] at h2; exact h2
def upD (key : D32) : Nat → List D32 → D32 → D32
  | _, [], e => e
  | k, s :: ss, e => if tb key.l k then tagI s (upD key (k + 1) ss e) else tagI (upD key (k + 1) ss e) s
theorem upD_zero (key : D32) (ds : List D32) (j : Nat) (hj : j < ds.length) (e : D32) (hb : tb key.l j = false) : upD key j (ds.drop j) e = tagI (upD key (j + 1) (ds.drop (j + 1)) e) ds[j] := by
  rw [List.drop_eq_getElem_cons hj, upD, hb]; rfl
theorem upD_one (key : D32) (ds : List D32) (j : Nat) (hj : j < ds.length) (e : D32) (hb : tb key.l j = true) : upD key j (ds.drop j) e = tagI ds[j] (upD key (j + 1) (ds.drop (j + 1)) e) := by
  rw [List.drop_eq_getElem_cons hj, upD, hb]; rfl
theorem xei {w : World} {g : Nat} {x y : D32} (h : Blk w g 23 (splice x.c 0 y.c)) : Blk w g 23 y.c := by
  have e : splice x.c 0 y.c = y.c := by simp [splice, D32.cl]
  rwa [e] at h
section
variable {w w' : World}
theorem up_ok (key : D32) (p : Prv) (ds : List D32) (hs : Sds w p.sides ds) (hl : p.sides.n ≤ 256) (hn : okN p.nod = true) (hk : p.kind ≠ 2) :
    Calls Tryz.prog 165 #[key.a, .agg p.cells.toArray] w fun e w' => e = .returned (.tuple #[.agg (upD key 0 ds (shaD (txtN p.nod))).c.toArray, .int .i64 0]) ∧ Below w.heap.size w w' := by
  have k1 : decide ((256 : Int) < (p.sides.n : Int)) = false := by simp; omega
  have k2 : ((p.kind : Int) == 2) = false := by simp; omega
  have HS := hZ hs; have hlen := hs.len; have HI : Hid ((p.sides.n : Int) - 1 = (p.sides.n : Int) - 1) := hZ rfl; clear hk hs; have HL := Loc.start w; obtain ⟨w0, rfl⟩ := eW w; go_enter Tryz.func165, Tryz.ntmps165; go_upto_region 0 with fail; refine X90 ?_; clear HL; intro g2 w HL; refine X5 ?_; refine X34 ?_; clear HL; intro g3 w HL; refine X5 ?_; refine xah zr23 rfl rfl HL ?_; clear HL; intro g4 w HL; refine X1c ?_; go_upto_region 1 with fail; refine X8k ?_; refine xaa rfl _ (xag sc29 HL _ rfl _ _ rfl _ _ _ (.tail _ (.head _)) (Prv.g_sides _)) ?_; refine X8m ?_; refine X5 ?_; refine X91 ?_; go_upto_region 3 with fail; refine X8q ?_; refine xaa rfl _ (xau ag32 HL _ rfl _ _ rfl _ _ _ (.tail _ (.head _)) (Prv.g_nod _) (Nod.len _)) ?_; refine X57 ?_; intro K hK; refine xad cf218 rfl _ rfl ?_; refine X1z ?_
  (with_reducible refine (xt3 p.nod hn).mono ?_); refine X4i ?_; clear hK K; intro w HL; refine X92 ?_; clear HL; intro g6 w HL; refine X93 ?_; clear HL; intro w HL; go_upto_region 4 with fail; refine X94 ?_; refine X17 ?_; refine X8v ?_; refine X8w ?_; refine X5 ?_; refine xab rfl _ (xag sc30 HL _ rfl _ _ rfl _ _ _ (.tail _ (.tail _ (.head _))) (Prv.g_kind _)) ?_; refine X2d ?_; go_upto_region 6 with fail; refine X8k ?_; refine X95 ?_; refine X8m ?_; refine X5 ?_; refine X96 ?_; refine X1c ?_; generalize he0 : shaD (txtN p.nod) = e0 at HL ⊢; go_wp2_with fail
  go_loopw [8] (fun z wr => ∃ j : Nat, j ≤ ds.length ∧ z = .int .i64 ((j : Int) - 1) ∧ Loc w0 (Old w0) [(g6, 23, (upD key j (ds.drop j) e0).c), (g4, 23, D32.z.c), (g3, 34, p.cells), (g2, 24, key.c)] wr) (fun z _ => (intOf z + 1).toNat)
  case atStart => exact ⟨ds.length, Nat.le_refl _, by rw [hlen], by rw [List.drop_length]; exact HL⟩
  case round =>
    clear HL; obtain ⟨j, hj, rfl, HL⟩ := hrel; obtain ⟨w, rfl⟩ := eW wr
    cases j with
    | zero =>
      go_upto_region 7 with fail; refine X97 ?_; refine X22 ?_; go_upto_region 12 with fail; refine X99 ?_; refine X9a ?_; clear HL; intro w HL; go_wp2_with fail; refine Xf ?_; refine X9b ?_; exact ⟨by rw [he0]; rfl, HL.below⟩
    | succ i =>
      have e1 : (((i + 1 : Nat) : Int) - 1) = (i : Int) := by omega
      rw [e1]; clear e1; have HJ : Hid ((i : Int) - 1 = (i : Int) - 1) := hZ rfl; have k7 : decide ((0 : Int) ≤ (i : Int)) = true := by simp
      obtain ⟨ad, hA, hE⟩ := HS.out.at_ i hj; have HEL := hZ hE; have HSV : p.sides.v = .slice (some ad) p.sides.n p.sides.c := by unfold Sv.v; rw [hA]
      have C := fun u => hZ (xf0 u key i (by omega))
      have hbit' : tb key.l i = true ∨ tb key.l i = false := by cases tb key.l i <;> simp
      clear hE; go_upto_region 7 with fail; refine X14 ?_; refine xaa rfl _ (xc3 _ _ rfl _ _ rfl rfl k7) ?_; refine X22 ?_; rcases hbit' with hbit | hbit
      · have HU := hZ (upD_one key ds i hj e0 hbit)
        rw [hbit] at C; clear hbit; go_upto_region 9 with fail; refine X9d ?_; refine X4a ?_; intro K hK; refine X5m ?_; refine X4d ?_; clear hK K; intro w HL; refine X2c ?_; obtain ⟨w1, rfl⟩ := eW w; go_upto_region 11 with fail; refine rB (Loc.P HL) [7] [6, 7] [0, 1, 2, 3, 4, 5, 6, 7] 0 ?_; refine X37 ?_; intro HL; refine X9e ?_; refine X5 ?_; refine X9f ?_; refine X3d ?_; refine xac rfl rfl HL (fun W hW => xaz sl29 (.tmp 49) _ rfl ad p.sides.n p.sides.c i .i64 HSV rfl (by omega)) ?_; refine X5 ?_; refine X9g ?_; refine X5 ?_; refine X62 ?_; refine Xk ?_; intro K hK; refine X6n ?_; (with_reducible refine (xhm _ ds[i] (upD key (i + 1) (ds.drop (i + 1)) e0)).mono ?_); refine X6r ?_; clear hK K; intro w HL K hK; refine xav ag23.i _ _ rfl g6 0 23 _ _ rfl rfl (HL.blk (.head _)) (D32.cl _) (by rw [D32.cl]; decide) (D32.c1 _) ?_; intro w' hb' hg' _; refine X3r ?_; clear hK K
        replace HL := HL.putAt (i := 0) rfl (xei hb') hg'; simp only [qg, qh] at HL; rw [← HU.out] at HL; refine Xd ?_; go_upto_region 8 with fail; refine X14 ?_; refine X9h ?_; refine X1c ?_; go_wp2_with fail; go_roundw
        case rel => exact ⟨i, by omega, rfl, HL⟩
        case measure => simp [intOf] <;> omega
      · have HU := hZ (upD_zero key ds i hj e0 hbit)
        rw [hbit] at C; clear hbit; go_upto_region 9 with fail; refine X9d ?_; refine X4a ?_; intro K hK; refine X5m ?_; refine X4d ?_; clear hK K; intro w HL; refine X2c ?_; obtain ⟨w1, rfl⟩ := eW w; go_upto_region 10 with fail; refine rB (Loc.P HL) [7] [6, 7] [0, 1, 2, 3, 4, 5, 6, 7] 0 ?_; refine X37 ?_; intro HL; refine X62 ?_; refine X5 ?_; refine X9e ?_; refine X5 ?_; refine X9f ?_; refine X3d ?_; refine xac rfl rfl HL (fun W hW => xaz sl29 (.tmp 43) _ rfl ad p.sides.n p.sides.c i .i64 HSV rfl (by omega)) ?_; refine X5 ?_; refine X9g ?_; refine Xk ?_; intro K hK; refine X6n ?_; (with_reducible refine (xhm _ (upD key (i + 1) (ds.drop (i + 1)) e0) ds[i]).mono ?_); refine X6r ?_; clear hK K; intro w HL K hK; refine xav ag23.i _ _ rfl g6 0 23 _ _ rfl rfl (HL.blk (.head _)) (D32.cl _) (by rw [D32.cl]; decide) (D32.c1 _) ?_; intro w' hb' hg' _; refine X3r ?_; clear hK K
        replace HL := HL.putAt (i := 0) rfl (xei hb') hg'; simp only [qg, qh] at HL; rw [← HU.out] at HL; refine Xd ?_; go_upto_region 8 with fail; refine X14 ?_; refine X9h ?_; refine X1c ?_; go_wp2_with fail; go_roundw
        case rel => exact ⟨i, by omega, rfl, HL⟩
        case measure => simp [intOf] <;> omega
end
section
variable {w w' : World}
end
section
variable {P : Program} {T E : TypeId} {z : Nat} {w : World} {o : Oper} {a : Act}
theorem xle (B : ST P T E z) (A : Option Addr) (n c l h : Nat) (k k' : IntKind) (hl : l ≤ h) (hh : h ≤ c) : (Instr.slice T (.slice A n c) (some (.int k (l : Int))) (some (.int k' (h : Int))) none).run P w = .ok (.slice (cutA A c l z) (h - l) (c - l)) w := by
  have e : P.elem T = E := by simp [Program.elem, B.t]
  rw [run_slice_lh w T A n c (by rw [e]; exact B.t) k k' l h (by omega) (by omega) (by omega), e, B.size]; simp [Result.andThen, sliced, cutA]
theorem xej (B : ST P T E z) (x lo hi : Operand) (ho : o.op = .slice T x (some lo) (some hi) none) (A : Option Addr) (n c l h : Nat) (k k' : IntKind) (hx : a.eval x = .slice A n c) (hl : a.eval lo = .int k (l : Int)) (hh : a.eval hi = .int k' (h : Int))
    (h1 : l ≤ h) (h2 : h ≤ c) : (execOp a.eval o).run P w = .ok (.value (.slice (cutA A c l z) (h - l) (c - l))) w := by
  have hr := xle (w := w) B A n c l h k k' h1 h2; have e : P.elem T = E := by simp [Program.elem, B.t]
  unfold execOp; simp only [ho, hx, Option.map_some, hh, hl, Option.map_none, Sem.run_bind, run_sliceAt_slice w T _ _ _ _ (by rw [e]; exact B.t), hr, Result.andThen_ok, Sem.run_pure]
end
section
variable {w w' : World}
theorem xkg {A : Option Addr} {n c : Nat} {l : List UInt8} (h : Tx w A n c l) (i : Nat) (hi : i < n) : ∃ ad, A = some ad ∧ w.cell? (ad.add i) = some (.int .u8 ((l.getD i 0).toNat : Int)) := by
  obtain ⟨ad, e, hc⟩ := h.rd.at_ (k := i) (by rw [xae, h.len]; exact hi); refine ⟨ad, e, ?_⟩; rw [hc]; have hlt : i < l.length := by rw [h.len]; exact hi
  simp [bvs, List.getD, hlt, bv]
theorem xnf (A : Option Addr) (c : Nat) (l : List UInt8) (h : Tx w A 1 c l) (h0 : l.getD 0 0 = 0) : Calls Tryz.prog 99 #[.slice A 1 c] w fun e w' => e = .returned (.tuple #[.agg Nod.z.cells.toArray, .int .i64 0]) ∧ Below w.heap.size w w' := by
  obtain ⟨ad, rfl, hc⟩ := xkg h 0 (by omega); rw [h0] at hc; refine X9i ?_; intro hD; have HL := Loc.start w; obtain ⟨w0, rfl⟩ := eW w; clear h h0; go_enter Tryz.func99, Tryz.ntmps99; go_upto_region 0 with fail; refine Xv ?_; refine X9j ?_; clear HL; intro g2 w HL; go_upto_region 1 with fail; refine X9m ?_; refine X9n ?_; refine X9o ?_; refine X9p ?_; refine X1v ?_; go_upto_region 2 with fail; refine Xv ?_; refine X9q ?_; refine X82 ?_; refine X4k ?_; clear HL; intro w HL; go_wp2_with fail; refine Xf ?_; refine X9r ?_; exact ⟨rfl, HL.below⟩
end
section
variable {w w' : World}
theorem xo3 (A : Option Addr) (c : Nat) (l : List UInt8) (h : Tx w A 1 c l) (h0 : l.getD 0 0 ≠ 0) : Calls Tryz.prog 99 #[.slice A 1 c] w fun e w' => e = .returned (.tuple #[.agg Nod.z.cells.toArray, .int .i64 10]) ∧ Below w.heap.size w w' := by
  obtain ⟨ad, rfl, hc⟩ := xkg h 0 (by omega); refine X9i ?_; intro hD
  have k0 : (((l.getD 0 0).toNat : Int) == 0) = false := by
    have : (l.getD 0 0).toNat ≠ 0 := fun e => h0 (UInt8.toNat_inj.1 e)
    exact nB (by omega)
  clear h0; have HL := Loc.start w; obtain ⟨w0, rfl⟩ := eW w; clear h; go_enter Tryz.func99, Tryz.ntmps99; go_upto_region 0 with fail; refine Xv ?_; refine X9j ?_; clear HL; intro g2 w HL; go_upto_region 1 with fail; refine X9m ?_; refine X9n ?_; refine X9o ?_; refine xab rfl _ (xao (b := false) _ _ rfl _ _ rfl rfl k0) ?_; refine X1v ?_; go_upto_region 3 with fail; refine X9k ?_; refine X9s ?_; refine X8t ?_; go_upto_region 5 with fail; refine X9k ?_; refine X9s ?_; refine X8t ?_; go_upto_region 7 with fail; refine Xv ?_; refine X9q ?_; refine X82 ?_; refine X4k ?_; clear HL; intro w HL; go_wp2_with fail; refine Xf ?_; refine X9r ?_; exact ⟨rfl, HL.below⟩
theorem xo4 (A : Option Addr) (n c : Nat) (l : List UInt8) (h : Tx w A n c l) (h1 : n ≠ 1) (h65 : n ≠ 65) : Calls Tryz.prog 99 #[.slice A n c] w fun e w' => e = .returned (.tuple #[.agg Nod.z.cells.toArray, .int .i64 10]) ∧ Below w.heap.size w w' := by
  have k0 : ((n : Int) == 1) = false := by simp; omega
  have k1 : ((n : Int) == 65) = false := by simp; omega
  have HL := Loc.start w; obtain ⟨w0, rfl⟩ := eW w; clear h; go_enter Tryz.func99, Tryz.ntmps99; go_upto_region 0 with fail; refine Xv ?_; refine X9j ?_; clear HL; intro g2 w HL; go_upto_region 1 with fail; refine X9k ?_; refine X9t ?_; refine X8t ?_; go_upto_region 3 with fail; refine X9k ?_; refine X9u ?_; refine X8t ?_; go_upto_region 5 with fail; refine X9k ?_; refine X9u ?_; refine X8t ?_; go_upto_region 7 with fail; refine Xv ?_; refine X9q ?_; refine X82 ?_; refine X4k ?_; clear HL; intro w HL; go_wp2_with fail; refine Xf ?_; refine X9r ?_; exact ⟨rfl, HL.below⟩
end
section
variable {w w' : World}
theorem u8_ne {x : UInt8} {n : Nat} (hn : n < 256) (h : x ≠ UInt8.ofNat n) : ((x.toNat : Int) == (n : Int)) = false := by
  refine nB fun e => h ?_
  have e2 : x.toNat = n := by omega
  apply UInt8.toNat_inj.1; rw [e2, UInt8.toNat_ofNat', Nat.mod_eq_of_lt hn]
theorem xng (A : Option Addr) (c : Nat) (l : List UInt8) (h : Tx w A 65 c l) (h1 : l.getD 0 0 ≠ 1) (h2 : l.getD 0 0 ≠ 2) : Calls Tryz.prog 99 #[.slice A 65 c] w fun e w' => e = .returned (.tuple #[.agg Nod.z.cells.toArray, .int .i64 10]) ∧ Below w.heap.size w w' := by
  obtain ⟨ad, rfl, hc⟩ := xkg h 0 (by omega); refine X9i ?_; intro hD; have k1 : (((l.getD 0 0).toNat : Int) == 1) = false := u8_ne (n := 1) (by omega) h1; have k2 : (((l.getD 0 0).toNat : Int) == 2) = false := u8_ne (n := 2) (by omega) h2; clear h1 h2 h; have HL := Loc.start w; obtain ⟨w0, rfl⟩ := eW w; go_enter Tryz.func99, Tryz.ntmps99; go_upto_region 0 with fail; refine Xv ?_; refine X9j ?_; clear HL; intro g2 w HL; go_upto_region 1 with fail; refine X9k ?_; refine X9s ?_; refine X8t ?_; go_upto_region 3 with fail; refine X9m ?_; refine X1o ?_; refine X9v ?_; refine X9o ?_; refine xab rfl _ (xao (b := false) _ _ rfl _ _ rfl rfl k1) ?_; refine X1v ?_; go_upto_region 5 with fail; refine X9m ?_; refine X9w ?_; refine X9o ?_; refine xab rfl _ (xao (b := false) _ _ rfl _ _ rfl rfl k2) ?_; refine X1v ?_; go_upto_region 7 with fail; refine Xv ?_; refine X9q ?_
  refine X82 ?_; refine X4k ?_; clear HL; intro w HL; go_wp2_with fail; refine Xf ?_; refine X9r ?_; exact ⟨rfl, HL.below⟩
end
section
variable {w w' : World}
def xkh (l : List UInt8) (i : Nat) (h : i + 32 ≤ l.length) : D32 := ⟨(l.drop i).take 32, by simp; omega⟩
theorem xnh {A : Option Addr} {n c : Nat} {l : List UInt8} (h : Tx w A n c l) (i : Nat) (hi : i + 32 ≤ l.length) : Rd w (cutA A c i 1) (xkh l i hi).c := by
  have h1 := h.rd.cutA (c := c) (lo := i) (z := 1) (by rw [xae, h.len]; have := h.cap; omega) 32
  have e : ((bvs l).drop (i * 1)).take 32 = (xkh l i hi).c := by
    unfold xkh D32.c bvs; rw [Nat.mul_one, List.map_take, List.map_drop]
  rw [e] at h1; exact h1
end
section
variable {w w' w0 : World} {D : Nat → Prop}
theorem Loc.grew (H : Loc w0 D [] w) {g : Nat} (hg : w.grownBy w' (some g)) (hn : ¬ D g) : Loc w0 D [] w' :=
  H.frame (T := (· = g)) ((Fr.refl (· = g) w).grown hg (fun k hk => .inl (by cases hk; rfl))) (fun k hk => hk ▸ hn) (fun x hx => by simp at hx)
theorem xhq {A : Option Addr} {c i n : Nat} {l : List UInt8} (h : Tx w A n c l) (hi : i < n) : ∃ ad, cutA A c i 1 = some ad := by
  obtain ⟨ad, rfl, _⟩ := xkg h i hi; have := h.cap; unfold cutA; rw [if_neg (by omega)]; exact ⟨_, rfl⟩
theorem xki {g : Nat} {x y : Nod} (h : Blk w g 32 (splice x.cells 0 y.cells)) : Blk w g 32 y.cells := by
  have e : splice x.cells 0 y.cells = y.cells := by simp [splice, Nod.len]
  rwa [e] at h
theorem xni (A : Option Addr) (c : Nat) (l : List UInt8) (h : Tx w A 65 c l) (hl65 : l.length = 65) (h0 : l.getD 0 0 = 1) : Calls Tryz.prog 99 #[.slice A 65 c] w fun e w' => e = .returned (.tuple #[.agg (⟨1, xkh l 1 (by omega), xkh l 33 (by omega), D32.z, D32.z⟩ : Nod).cells.toArray, .int .i64 0]) ∧ Below w.heap.size w w' := by
  have hlen := h.len; have hcap := h.cap; obtain ⟨ad, rfl, hc⟩ := xkg h 0 (by omega); obtain ⟨a1, e1⟩ := xhq (i := 1) h (by omega); obtain ⟨a2, e2⟩ := xhq (i := 33) h (by omega); have r1 := xnh h 1 (by omega); have r2 := xnh h 33 (by omega); rw [e1] at r1; rw [e2] at r2; have E1 := hZ e1; have E2 := hZ e2; rw [h0] at hc; refine X9i ?_; intro hD; clear h h0 e1 e2; have HL := Loc.start w; obtain ⟨w0, rfl⟩ := eW w; go_enter Tryz.func99, Tryz.ntmps99; go_upto_region 0 with fail; refine Xv ?_; refine X9j ?_; clear HL; intro g2 w HL; go_upto_region 1 with fail; refine X9k ?_; refine X9s ?_; refine X8t ?_; go_upto_region 3 with fail; refine X9m ?_; refine X1o ?_; refine X9v ?_; refine X9o ?_; refine X9p ?_; refine X1v ?_; have hg2 := HL.blk (.head _); have hgn := (HL.own _ (.head _)).1; replace HL := HL.drop [] (List.nil_sublist _); go_upto_region 4 with fail; refine X9x ?_
  refine X39 ?_; intro HL; refine xac rfl rfl HL (fun W hW => xej sl25 (.tmp 25) _ _ rfl (some ad) 65 c 1 33 .i64 .i64 rfl rfl rfl (by omega) (by omega)) ?_; refine X5 ?_; refine xac rfl rfl HL (fun W hW => xew Tryz.underlying24 _ rfl _ _ _ rfl (by omega)) ?_; refine X5 ?_; refine xac rfl rfl HL (fun W hW => xay ag24 (.tmp 27) rfl a1 _ (congrArg Value.pointer E1.out) (hW.rdO r1) (by omega) (D32.cl _)) ?_; refine X3d ?_; refine xac rfl rfl HL (fun W hW => xb3 sl25 (.tmp 29) _ rfl (some ad) 65 c 33 .i64 rfl rfl (by omega)) ?_; refine X5 ?_; refine X9y ?_; refine X5 ?_; refine xac rfl rfl HL (fun W hW => xay ag23 (.tmp 31) rfl a2 _ (congrArg Value.pointer E2.out) (hW.rdO r2) (by omega) (D32.cl _)) ?_; refine X9z ?_; refine Xk ?_; intro K hK
  refine xav ag32.i _ _ rfl g2 0 32 _ _ rfl rfl hg2.drew (Nod.len _) (by rw [Nod.len]; decide) (Nod.one _) ?_; intro w' hb' hg' _; replace HL := HL.grew hg' hgn; replace hg2 := xki hb'; refine Xa0 ?_; clear hK K; go_wp2_with fail; refine Xa1 ?_; exact ⟨rfl, HL.below⟩
theorem xlf (A : Option Addr) (c : Nat) (l : List UInt8) (h : Tx w A 65 c l) (hl65 : l.length = 65) (h0 : l.getD 0 0 = 2) : Calls Tryz.prog 99 #[.slice A 65 c] w fun e w' => e = .returned (.tuple #[.agg (⟨2, D32.z, D32.z, xkh l 1 (by omega), xkh l 33 (by omega)⟩ : Nod).cells.toArray, .int .i64 0]) ∧ Below w.heap.size w w' := by
  have hlen := h.len; have hcap := h.cap; obtain ⟨ad, rfl, hc⟩ := xkg h 0 (by omega); obtain ⟨a1, e1⟩ := xhq (i := 1) h (by omega); obtain ⟨a2, e2⟩ := xhq (i := 33) h (by omega); have r1 := xnh h 1 (by omega); have r2 := xnh h 33 (by omega); rw [e1] at r1; rw [e2] at r2; have E1 := hZ e1; have E2 := hZ e2; rw [h0] at hc; refine X9i ?_; intro hD; clear h h0 e1 e2; have HL := Loc.start w; obtain ⟨w0, rfl⟩ := eW w; go_enter Tryz.func99, Tryz.ntmps99; go_upto_region 0 with fail; refine Xv ?_; refine X9j ?_; clear HL; intro g2 w HL; go_upto_region 1 with fail; refine X9k ?_; refine X9s ?_; refine X8t ?_; go_upto_region 3 with fail; refine X9m ?_; refine X1o ?_; refine X9v ?_; refine X9o ?_; refine xab rfl _ (xao (b := false) _ _ rfl _ _ rfl rfl rfl) ?_; refine X1v ?_; go_upto_region 5 with fail; refine X9m ?_; refine X9w ?_; refine X9o ?_; refine X9p ?_
  refine X1v ?_; have hg2 := HL.blk (.head _); have hgn := (HL.own _ (.head _)).1; replace HL := HL.drop [] (List.nil_sublist _); go_upto_region 6 with fail; refine X9x ?_; refine X39 ?_; intro HL; refine xac rfl rfl HL (fun W hW => xej sl25 (.tmp 44) _ _ rfl (some ad) 65 c 1 33 .i64 .i64 rfl rfl rfl (by omega) (by omega)) ?_; refine X5 ?_; refine X9y ?_; refine X5 ?_; refine xac rfl rfl HL (fun W hW => xay ag23 (.tmp 46) rfl a1 _ (congrArg Value.pointer E1.out) (hW.rdO r1) (by omega) (D32.cl _)) ?_; refine X3d ?_; refine xac rfl rfl HL (fun W hW => xb3 sl25 (.tmp 48) _ rfl (some ad) 65 c 33 .i64 rfl rfl (by omega)) ?_; refine X5 ?_; refine X9y ?_; refine X5 ?_; refine xac rfl rfl HL (fun W hW => xay ag23 (.tmp 50) rfl a2 _ (congrArg Value.pointer E2.out) (hW.rdO r2) (by omega) (D32.cl _)) ?_; refine X5 ?_
  refine xac rfl rfl HL (fun W hW => xbf bs32 _ rfl _ (by exact xqp _ _)) ?_; refine Xk ?_; intro K hK; refine xav ag32.i _ _ rfl g2 0 32 _ _ rfl rfl hg2.drew (Nod.len _) (by rw [Nod.len]; decide) (Nod.one _) ?_; intro w' hb' hg' _; replace HL := HL.grew hg' hgn; replace hg2 := xki hb'; refine Xa0 ?_; clear hK K; go_wp2_with fail; refine Xa1 ?_; exact ⟨rfl, HL.below⟩
end
end Go.Proofs.YtkjjdgnkelchfaaGreat
namespace Go.Proofs.YtkjjdgnkelchfaaGreat
abbrev Bts := List UInt8
def xc9 (b : Bool) (h s : Bts) : Bts := 2 :: (if b then s ++ h else h ++ s)
def xb0 (H : Bts → Bts) (bit : Nat → Bool) : Nat → List Bts → Bts → List Bts
  | _, [], e => [e]
  | d, s :: ss, e => xc9 (bit d) (H ((xb0 H bit (d + 1) ss e).headD [])) s :: xb0 H bit (d + 1) ss e
def upW (H : Bts → Bts) (bit : Nat → Bool) : Nat → List Bts → Bts → Bts
  | _, [], e => H e
  | d, s :: ss, e => H (xc9 (bit d) (upW H bit (d + 1) ss e) s)
theorem xgn (H : Bts → Bts) (bit : Nat → Bool) (d : Nat) (ss : List Bts) (e : Bts) : (xb0 H bit d ss e).length = ss.length + 1 := by
  induction ss generalizing d with
  | nil => rfl
  | cons s ss ih => simp [xb0, ih]
theorem xd3 (H : Bts → Bts) (bit : Nat → Bool) (d : Nat) (ss : List Bts) (e : Bts) : upW H bit d ss e = H ((xb0 H bit d ss e).headD []) := by
  induction ss generalizing d with
  | nil => rfl
  | cons s ss ih => simp [xb0, upW, ih]
def EndT (e : Bts) : Prop := ∃ x r, e = x :: r ∧ x ≠ 2
theorem xt4 {b : Bool} {h s h' s' : Bts} (hh : h.length = 32) (hs : s.length = 32) (hh' : h'.length = 32) (hs' : s'.length = 32) (e : xc9 b h s = xc9 b h' s') : h = h' ∧ s = s' := by
  unfold xc9 at e; injection e with _ e; cases b
  · simp only [Bool.false_eq_true, if_false] at e
    exact List.append_inj e (by omega)
  · simp only [if_true] at e
    exact (List.append_inj e (by omega)).symm
theorem xgo {b : Bool} {h s e : Bts} (he : EndT e) : xc9 b h s ≠ e := by
  obtain ⟨x, r, rfl, hx⟩ := he; intro hn; unfold xc9 at hn; injection hn with h1 _; exact hx h1.symm
theorem part_law (H : Bts → Bts) (hH : ∀ l, (H l).length = 32) (bit : Nat → Bool) (ss tt : List Bts) (e f : Bts) (d : Nat) (hs : ∀ s ∈ ss, s.length = 32) (ht : ∀ s ∈ tt, s.length = 32) (he : EndT e) (hf : EndT f)
    (htop : upW H bit d ss e = upW H bit d tt f) (hne : ¬ (ss = tt ∧ e = f)) :
    ∃ i, i < ss.length + 1 ∧ i < tt.length + 1 ∧ (∀ j, j < i → (xb0 H bit d ss e).getD j [] = (xb0 H bit d tt f).getD j []) ∧ (xb0 H bit d ss e).getD i [] ≠ (xb0 H bit d tt f).getD i [] ∧
      H ((xb0 H bit d ss e).getD i []) = H ((xb0 H bit d tt f).getD i []) := by
  induction ss generalizing d tt with
  | nil =>
    refine ⟨0, by simp, by simp, fun j hj => by omega, ?_, ?_⟩
    · cases tt with
      | nil => simpa [xb0] using hne
      | cons t tt => simpa [xb0] using (xgo he).symm
    · cases tt with
      | nil => simpa [xb0, upW] using htop
      | cons t tt => rw [xd3 H bit d (t :: tt)] at htop; simpa [xb0, upW] using htop
  | cons s ss ih =>
    cases tt with
    | nil =>
      refine ⟨0, by simp, by simp, fun j hj => by omega, ?_, ?_⟩
      · simpa [xb0] using xgo hf
      · rw [xd3 H bit d (s :: ss)] at htop; simpa [xb0, upW] using htop
    | cons t tt =>
      by_cases heq : xc9 (bit d) (upW H bit (d + 1) ss e) s = xc9 (bit d) (upW H bit (d + 1) tt f) t
      · have hl : ∀ d ss e, (upW H bit d ss e).length = 32 := by
          intro d ss e; cases ss <;> exact hH _
        obtain ⟨h1, h2⟩ := xt4 (hl _ _ _) (hs s (by simp)) (hl _ _ _) (ht t (by simp)) heq; obtain ⟨i, h3, h4, h5, h6, h7⟩ := ih (d := d + 1) (tt := tt) (fun u hu => hs u (by simp [hu])) (fun u hu => ht u (by simp [hu])) h1 (fun h => hne (by rw [h.1, h.2, h2]; exact ⟨rfl, rfl⟩)); refine ⟨i + 1, by simp; omega, by simp; omega, ?_, by simpa [xb0] using h6, by simpa [xb0] using h7⟩; intro j hj
        cases j with
        | zero =>
          simp only [xb0, qi]; rw [← xd3 H bit, ← xd3 H bit]; exact heq
        | succ j =>
          simp only [xb0, qj]; exact h5 j (by omega)
      · refine ⟨0, by simp, by simp, fun j hj => by omega, ?_, ?_⟩
        · simp only [xb0, qi]
          rw [← xd3 H bit, ← xd3 H bit]; exact heq
        · simp only [xb0, qi]
          rw [← xd3 H bit, ← xd3 H bit]; exact htop
structure Br where
  k : UInt8
  key : Bts
  val : Bts
  dig : Bts
def zb32 : Bts := List.replicate 32 0
def xkj (b : Br) : Bool :=
  if b.k = 0 ∨ b.k = 2 then b.key == zb32 && b.val == zb32 && b.dig == zb32
  else if b.k = 1 then b.dig == zb32
  else if b.k = 3 then b.key == zb32 && b.val == zb32
  else false
structure SpR where
  dig : Bts
  rest : List Br
  ents : List (Bts × Bts)
  sides : List Bts
  fin : Option (Bts × Bts)
structure SpW where
  tch : Bts → Nat → Bool
  flip : Bts → Nat → Bts
  under : Bts → Bts → Nat → Bool
  has : Bts → Bool
  bit : Nat → Bool
  key : Bts
def endT : Option (Bts × Bts) → Bts
  | none => [0]
  | some (k, v) => 1 :: (k ++ v)
def xek (H : Bts → Bts) (X : SpW) : Nat → List Br → Bts → Nat → Option SpR
  | _, [], _, _ => none
  | n, b :: rest, top, d =>
    if xkj b = false then none
    else if b.k = 0 then some ⟨H [0], rest, [], [], none⟩
    else if b.k = 3 then (if X.tch top d then none else some ⟨b.dig, rest, [], [], none⟩)
    else if X.tch top d = false then none
    else if b.k = 1 then
      (if X.under b.key top d then some ⟨H (1 :: (b.key ++ b.val)), rest, if X.has b.key then [(b.key, b.val)] else [], [], if X.under X.key top d then some (b.key, b.val) else none⟩ else none)
    else match n with
      | 0 => none
      | n + 1 => match xek H X n rest top (d + 1) with
        | none => none
        | some a => match xek H X n a.rest (X.flip top d) (d + 1) with
          | none => none
          | some c => some ⟨H (2 :: (a.dig ++ c.dig)), c.rest, a.ents ++ c.ents, a.sides ++ c.sides ++ (if X.under X.key top d then [if X.bit d then a.dig else c.dig] else []), c.fin.or a.fin⟩
structure SpL (X : SpW) (Z : Bts → Nat → Prop) : Prop where
  open_ : ∀ top d, Z top d → X.under X.key top d = true → X.tch top d = true
  left : ∀ top d, Z top d → Z top (d + 1)
  right : ∀ top d, d < 256 → Z top d → Z (X.flip top d) (d + 1)
  up : ∀ k top d, X.under k top (d + 1) = true → X.under k top d = true
  upr : ∀ k top d, d < 256 → Z top d → X.under k (X.flip top d) (d + 1) = true → X.under k top d = true
  l : ∀ top d, d < 256 → Z top d → X.under X.key top d = true → X.under X.key top (d + 1) = !X.bit d
  r : ∀ top d, d < 256 → Z top d → X.under X.key top d = true → X.under X.key (X.flip top d) (d + 1) = X.bit d
  has : X.has X.key = true
structure xkk (H : Bts → Bts) (X : SpW) (top : Bts) (d : Nat) (s : SpR) : Prop where
  inn : ∀ e ∈ s.ents, X.under e.1 top d = true
  l32 : s.dig.length = 32
  s32 : ∀ h ∈ s.sides, h.length = 32
  out : X.under X.key top d = false → s.sides = [] ∧ s.fin = none
  up : X.under X.key top d = true → upW H X.bit d s.sides.reverse (endT s.fin) = s.dig
  few : X.under X.key top d = true → d + s.sides.length ≤ 256
  fin : ∀ k v, s.fin = some (k, v) → ∃ t, X.under k t (d + s.sides.length) = true ∧ X.under X.key t (d + s.sides.length) = true
  ent : ∀ k v, s.fin = some (k, v) → k = X.key → (k, v) ∈ s.ents
  uni : ∀ v, (X.key, v) ∈ s.ents → s.fin = some (X.key, v)
theorem xkl (H : Bts → Bts) (hH : ∀ l, (H l).length = 32) (X : SpW) (Z : Bts → Nat → Prop) (L : SpL X Z) (rest : List Br) (b : Br) (top : Bts) (d : Nat) (hd : d ≤ 256) (hu : X.under b.key top d = true) :
    xkk H X top d ⟨H (1 :: (b.key ++ b.val)), rest, if X.has b.key then [(b.key, b.val)] else [], [], if X.under X.key top d then some (b.key, b.val) else none⟩ := by
  refine ⟨?_, hH _, by simp, fun h => by simp [h], fun h => by simp [h, upW, endT], fun _ => by simpa using hd, ?_, ?_, ?_⟩
  · intro e he
    by_cases hh : X.has b.key
    · simp [hh] at he; subst he; exact hu
    · simp [hh] at he
  · intro k v h
    by_cases hk : X.under X.key top d
    · simp [hk] at h; obtain ⟨rfl, rfl⟩ := h; exact ⟨top, by simpa using hu, by simpa using hk⟩
    · simp [hk] at h
  · intro k v h e
    by_cases hk : X.under X.key top d
    · simp [hk] at h; obtain ⟨rfl, rfl⟩ := h
      simp [e, L.has]
    · simp [hk] at h
  · intro v hv
    by_cases hh : X.has b.key
    · simp [hh] at hv
      obtain ⟨h1, rfl⟩ := hv; rw [h1, hu]; simp
    · simp [hh] at hv
theorem xfj (H : Bts → Bts) (X : SpW) (rest : List Br) (top : Bts) (d : Nat) (h : Bts) (hl : h.length = 32) (hd : d ≤ 256) (hk : X.under X.key top d = true → h = H [0]) : xkk H X top d ⟨h, rest, [], [], none⟩ :=
  ⟨by simp, hl, by simp, fun _ => ⟨rfl, rfl⟩, fun e => by simp [upW, endT, hk e], fun _ => by simpa using hd, by simp, by simp, by simp⟩
theorem xo5 (H : Bts → Bts) (hH : ∀ l, (H l).length = 32) (X : SpW) (Z : Bts → Nat → Prop) (L : SpL X Z) (top : Bts) (d : Nat) (hd : d < 256) (hz : Z top d) (a c : SpR) (ha : xkk H X top (d + 1) a) (hc : xkk H X (X.flip top d) (d + 1) c) :
    xkk H X top d ⟨H (2 :: (a.dig ++ c.dig)), c.rest, a.ents ++ c.ents, a.sides ++ c.sides ++ (if X.under X.key top d then [if X.bit d then a.dig else c.dig] else []), c.fin.or a.fin⟩ := by
  have hn : X.under X.key top d = false → a.sides = [] ∧ a.fin = none ∧ c.sides = [] ∧ c.fin = none := by
    intro h
    have h1 : X.under X.key top (d + 1) = false := by
      by_cases h' : X.under X.key top (d + 1) = true
      · rw [L.up _ _ _ h'] at h; cases h
      · simpa using h'
    have h2 : X.under X.key (X.flip top d) (d + 1) = false := by
      by_cases h' : X.under X.key (X.flip top d) (d + 1) = true
      · rw [L.upr _ _ _ hd hz h'] at h; cases h
      · simpa using h'
    exact ⟨(ha.out h1).1, (ha.out h1).2, (hc.out h2).1, (hc.out h2).2⟩
  have hy : X.under X.key top d = true → (X.bit d = false ∧ X.under X.key top (d + 1) = true ∧ c.sides = [] ∧ c.fin = none) ∨ (X.bit d = true ∧ X.under X.key (X.flip top d) (d + 1) = true ∧ a.sides = [] ∧ a.fin = none) := by
    intro h; have h1 := L.l top d hd hz h; have h2 := L.r top d hd hz h
    cases hb : X.bit d with
    | false => rw [hb] at h1 h2; exact .inl ⟨rfl, h1, (hc.out h2).1, (hc.out h2).2⟩
    | true => rw [hb] at h1 h2; exact .inr ⟨rfl, h2, (ha.out h1).1, (ha.out h1).2⟩
  have hno : ∀ (t : Bts) (s : SpR) (d' : Nat), xkk H X t d' s → s.fin = none → ∀ v, (X.key, v) ∉ s.ents := by
    intro t s d' hs hf v hv; have := hs.uni v hv; rw [hf] at this; cases this
  refine ⟨?_, hH _, ?_, ?_, ?_, ?_, ?_, ?_, ?_⟩
  · intro e he
    rcases List.mem_append.1 he with he | he
    · exact L.up _ _ _ (ha.inn e he)
    · exact L.upr _ _ _ hd hz (hc.inn e he)
  · intro h hh
    simp only [List.mem_append] at hh; rcases hh with (hh | hh) | hh
    · exact ha.s32 h hh
    · exact hc.s32 h hh
    · by_cases hk : X.under X.key top d
      · simp [hk] at hh
        subst hh; by_cases hb : X.bit d <;> simp [hb, ha.l32, hc.l32]
      · simp [hk] at hh
  · intro h
    obtain ⟨h1, h2, h3, h4⟩ := hn h; simp [h, h1, h2, h3, h4]
  · intro h
    rcases hy h with ⟨hb, h1, h2, h3⟩ | ⟨hb, h1, h2, h3⟩
    · simp [h, hb, h2, h3, upW, ha.up h1, xc9]
    · have hf : c.fin.or a.fin = c.fin := by rw [h3]; cases c.fin <;> rfl
      simp [h, hb, h2, hf, upW, hc.up h1, xc9]
  · intro h
    rcases hy h with ⟨hb, h1, h2, h3⟩ | ⟨hb, h1, h2, h3⟩
    · have := ha.few h1
      simp [h, h2]; omega
    · have := hc.few h1
      simp [h, h2]; omega
  · intro k v hf
    by_cases h : X.under X.key top d = true
    · rcases hy h with ⟨hb, h1, h2, h3⟩ | ⟨hb, h1, h2, h3⟩
      · simp [h3] at hf
        obtain ⟨t, h5, h6⟩ := ha.fin k v hf; refine ⟨t, ?_⟩; have e : d + (a.sides ++ c.sides ++ (if X.under X.key top d then [if X.bit d then a.dig else c.dig] else [])).length = d + 1 + a.sides.length := by simp [h, h2]; omega
        show X.under k t (d + (a.sides ++ c.sides ++ (if X.under X.key top d then [if X.bit d then a.dig else c.dig] else [])).length) = true ∧ X.under X.key t (d + (a.sides ++ c.sides ++ (if X.under X.key top d then [if X.bit d then a.dig else c.dig] else [])).length) = true; rw [e]; exact ⟨h5, h6⟩
      · have hf' : c.fin.or a.fin = c.fin := by rw [h3]; cases c.fin <;> rfl
        simp only [hf'] at hf; obtain ⟨t, h5, h6⟩ := hc.fin k v hf; refine ⟨t, ?_⟩; have e : d + (a.sides ++ c.sides ++ (if X.under X.key top d then [if X.bit d then a.dig else c.dig] else [])).length = d + 1 + c.sides.length := by simp [h, h2]; omega
        show X.under k t (d + (a.sides ++ c.sides ++ (if X.under X.key top d then [if X.bit d then a.dig else c.dig] else [])).length) = true ∧ X.under X.key t (d + (a.sides ++ c.sides ++ (if X.under X.key top d then [if X.bit d then a.dig else c.dig] else [])).length) = true; rw [e]; exact ⟨h5, h6⟩
    · obtain ⟨h1, h2, h3, h4⟩ := hn (by simpa using h)
      simp [h2, h4] at hf
  · intro k v hf hk
    cases hcf : c.fin with
    | none =>
      simp [hcf] at hf; exact List.mem_append.2 (.inl (ha.ent k v hf hk))
    | some x =>
      simp [hcf] at hf; exact List.mem_append.2 (.inr (hc.ent k v (by rw [hcf, hf]) hk))
  · intro v hv
    have hk : X.under X.key top d = true := by
      rcases List.mem_append.1 hv with he | he
      · exact L.up _ _ _ (ha.inn _ he)
      · exact L.upr _ _ _ hd hz (hc.inn _ he)
    rcases hy hk with ⟨hb, h1, h2, h3⟩ | ⟨hb, h1, h2, h3⟩
    · rcases List.mem_append.1 hv with he | he
      · simp [h3, ha.uni v he]
      · exact absurd he (hno _ _ _ hc h3 v)
    · have hf' : c.fin.or a.fin = c.fin := by rw [h3]; cases c.fin <;> rfl
      rcases List.mem_append.1 hv with he | he
      · exact absurd he (hno _ _ _ ha h3 v)
      · show c.fin.or a.fin = _
        rw [hf']; exact hc.uni v he
theorem xkm (H : Bts → Bts) (hH : ∀ l, (H l).length = 32) (X : SpW) (Z : Bts → Nat → Prop) (L : SpL X Z) (n : Nat) : ∀ (rest : List Br) (top : Bts) (d : Nat) (s : SpR), d + n = 256 → Z top d → (∀ b ∈ rest, b.dig.length = 32) →
    xek H X n rest top d = some s → xkk H X top d s ∧ ∀ b ∈ s.rest, b.dig.length = 32 := by
  induction n with
  | zero =>
    intro rest top d s hd hz hr h
    cases rest with
    | nil => simp [xek] at h
    | cons b rest =>
      have hr' : ∀ b ∈ rest, b.dig.length = 32 := fun x hx => hr x (by simp [hx])
      unfold xek at h
      split at h
      · cases h
      split at h
      · injection h with h; subst h; exact ⟨xfj H X _ _ _ _ (hH _) (by omega) (fun _ => rfl), hr'⟩
      split at h
      · split at h
        · cases h
        · rename_i hk; injection h with h; subst h; exact ⟨xfj H X _ _ _ _ (hr b (by simp)) (by omega) (fun e => absurd (L.open_ _ _ hz e) hk), hr'⟩
      split at h
      · cases h
      split at h
      · split at h
        · rename_i hu; injection h with h; subst h; exact ⟨xkl H hH X Z L _ _ _ _ (by omega) hu, hr'⟩
        · cases h
      · cases h
  | succ n ih =>
    intro rest top d s hd hz hr h
    cases rest with
    | nil => simp [xek] at h
    | cons b rest =>
      have hr' : ∀ b ∈ rest, b.dig.length = 32 := fun x hx => hr x (by simp [hx])
      unfold xek at h
      split at h
      · cases h
      split at h
      · injection h with h; subst h; exact ⟨xfj H X _ _ _ _ (hH _) (by omega) (fun _ => rfl), hr'⟩
      split at h
      · split at h
        · cases h
        · rename_i hk; injection h with h; subst h; exact ⟨xfj H X _ _ _ _ (hr b (by simp)) (by omega) (fun e => absurd (L.open_ _ _ hz e) hk), hr'⟩
      split at h
      · cases h
      split at h
      · split at h
        · rename_i hu; injection h with h; subst h; exact ⟨xkl H hH X Z L _ _ _ _ (by omega) hu, hr'⟩
        · cases h
      · simp only at h
        split at h
        · cases h
        · rename_i a ha
          split at h
          · cases h
          · rename_i c hc
            injection h with h; subst h; obtain ⟨h1, h2⟩ := ih _ _ _ _ (by omega) (L.left _ _ hz) hr' ha; obtain ⟨h3, h4⟩ := ih _ _ _ _ (by omega) (L.right _ _ (by omega) hz) h2 hc; exact ⟨xo5 H hH X Z L _ _ (by omega) hz a c h1 h3, h4⟩
structure Pf where
  sides : List Bts
  fin : Option (Bts × Bts)
structure Pf.Ok (p : Pf) : Prop where
  few : p.sides.length ≤ 256
  s32 : ∀ s ∈ p.sides, s.length = 32
  f32 : ∀ k v, p.fin = some (k, v) → k.length = 32 ∧ v.length = 32
def xfk (b : Bts) (i : Nat) : Bts := b.set (i / 8) (UInt8.ofNat ((b.getD (i / 8) 0).toNat ||| 2 ^ (7 - i % 8)))
theorem xlg (b : Bts) (i : Nat) : (xfk b i).length = b.length := by simp [xfk]
theorem xt5 (b : Bts) (i j : Nat) (hi : i / 8 < b.length) : tb (xfk b i) j = (decide (j = i) || tb b j) := by
  unfold tb xfk; by_cases hb : j / 8 = i / 8
  · have h1 : (b.set (i / 8) (UInt8.ofNat ((b.getD (i / 8) 0).toNat ||| 2 ^ (7 - i % 8)))).getD (j / 8) 0 = UInt8.ofNat ((b.getD (i / 8) 0).toNat ||| 2 ^ (7 - i % 8)) := by
      rw [hb]; simp [List.getD, hi]
    have h2 : (b.getD (i / 8) 0).toNat ||| 2 ^ (7 - i % 8) < 2 ^ 8 := Nat.or_lt_two_pow (UInt8.toNat_lt _) (Nat.pow_lt_pow_right (by omega) (by omega)); rw [h1, UInt8.toNat_ofNat', Nat.mod_eq_of_lt h2, Nat.testBit_or, Nat.testBit_two_pow, hb, Bool.or_comm]; congr 1; rw [decide_eq_decide]; omega
  · have h1 : (b.set (i / 8) (UInt8.ofNat ((b.getD (i / 8) 0).toNat ||| 2 ^ (7 - i % 8)))).getD (j / 8) 0 = b.getD (j / 8) 0 := by
      simp only [List.getD_eq_getElem?_getD]; rw [List.getElem?_set_ne (by omega)]
    rw [h1]; have : decide (j = i) = false := by simp; rintro rfl; exact hb rfl
    rw [this, Bool.false_or]
def xbp (E : Bts) (ss : List Bts) : Nat → Bts
  | 0 => List.replicate ((ss.length + 7) / 8) 0
  | i + 1 => if ss.getD i E = E then xbp E ss i else xfk (xbp E ss i) i
theorem xd0 (E : Bts) (ss : List Bts) (i : Nat) : (xbp E ss i).length = (ss.length + 7) / 8 := by
  induction i with
  | zero => simp [xbp]
  | succ i ih => unfold xbp; split <;> simp [xlg, ih]
theorem xt6 (E : Bts) (ss : List Bts) (i j : Nat) (hi : i ≤ ss.length) : tb (xbp E ss i) j = (decide (j < i) && !decide (ss.getD j E = E)) := by
  induction i with
  | zero =>
    have : (List.replicate ((ss.length + 7) / 8) (0 : UInt8)).getD (j / 8) 0 = 0 := by
      simp only [List.getD_eq_getElem?_getD, List.getElem?_replicate]
      split <;> rfl
    unfold tb xbp; rw [this]; simp
  | succ i ih =>
    have ih := ih (by omega); unfold xbp
    split
    · rename_i h
      rw [ih]; by_cases hj : j = i
      · subst hj; rw [decide_eq_true h]; simp
      · have : decide (j < i + 1) = decide (j < i) := by rw [decide_eq_decide]; omega
        rw [this]
    · rename_i h
      rw [xt5 _ _ _ (by rw [xd0]; omega), ih]; by_cases hj : j = i
      · subst hj; rw [decide_eq_false h]; simp
      · have : decide (j < i + 1) = decide (j < i) := by rw [decide_eq_decide]; omega
        rw [this]; simp [hj]
def xdo (E : Bts) (ss : List Bts) (i : Nat) : Bts := ((ss.take i).filter (fun s => !decide (s = E))).flatten
theorem xo6 (E : Bts) (ss : List Bts) (i : Nat) (h : i < ss.length) : xdo E ss (i + 1) = xdo E ss i ++ (if ss.getD i E = E then [] else ss[i]) := by
  unfold xdo; rw [List.take_succ_eq_append_getElem h, List.filter_append, List.flatten_append]; congr 1; have : ss.getD i E = ss[i] := by simp [List.getD, h]
  rw [this]; by_cases he : ss[i] = E <;> simp [he]
def put2 (n : Nat) : Bts := [UInt8.ofNat (n / 256), UInt8.ofNat n]
def encP (E : Bts) (p : Pf) : Bts := put2 p.sides.length ++ (xbp E p.sides p.sides.length ++ (xdo E p.sides p.sides.length ++ endT p.fin))
inductive EndR where
  | bad
  | end_ (f : Option (Bts × Bts))
  | inner (l r : Bts)
def decE (b : Bts) : EndR :=
  if b = [0] then .end_ none
  else if b.length = 65 ∧ b.getD 0 0 = 1 then .end_ (some ((b.drop 1).take 32, b.drop 33))
  else if b.length = 65 ∧ b.getD 0 0 = 2 then .inner ((b.drop 1).take 32) (b.drop 33)
  else .bad
theorem xie (f : Option (Bts × Bts)) (h : ∀ k v, f = some (k, v) → k.length = 32 ∧ v.length = 32) : decE (endT f) = .end_ f := by
  cases f with
  | none => rfl
  | some x =>
    obtain ⟨k, v⟩ := x; obtain ⟨h1, h2⟩ := h k v rfl; unfold decE endT; rw [if_neg (by intro e; injection e with e1 _; cases e1), if_pos ⟨by simp [h1, h2], rfl⟩]; simp only [List.drop_succ_cons, List.drop_zero]; rw [List.take_append_of_le_length (by omega), List.take_of_length_le (by omega), List.drop_append_of_le_length (by omega), List.drop_of_length_le (by omega), List.nil_append]
def xcy (E bits : Bts) : Nat → Nat → Bts → Option (List Bts × Bts)
  | 0, _, r => some ([], r)
  | n + 1, i, r =>
    if tb bits i then
      (if r.length < 32 then none else match xcy E bits n (i + 1) (r.drop 32) with
        | none => none
        | some (l, q) => some (r.take 32 :: l, q))
    else match xcy E bits n (i + 1) r with
      | none => none
      | some (l, q) => some (E :: l, q)
theorem xo7 (E bits : Bts) (ss : List Bts) (q : Bts) (i : Nat) (hs : ∀ s ∈ ss, s.length = 32) (hb : ∀ j, j < ss.length → tb bits (i + j) = !decide (ss.getD j E = E)) :
    xcy E bits ss.length i ((ss.filter (fun s => !decide (s = E))).flatten ++ q) = some (ss, q) := by
  induction ss generalizing i with
  | nil => rfl
  | cons s ss ih =>
    have h0 := hb 0 (by simp)
    have ih := ih (i + 1) (fun t ht => hs t (by simp [ht])) (fun j hj => by
      have := hb (j + 1) (by simp; omega); rw [show i + 1 + j = i + (j + 1) by omega]
      simpa using this)
    have hl := hs s (by simp); simp only [qi, Nat.add_zero] at h0; rw [List.length_cons, xcy, h0]; by_cases he : s = E
    · simp [he, ih]
    · have e1 : ((s :: ss).filter (fun s => !decide (s = E))).flatten ++ q = s ++ ((ss.filter (fun s => !decide (s = E))).flatten ++ q) := by simp [he]
      rw [e1]; simp only [he, decide_false, Bool.not_false, if_true]; rw [if_neg (by simp; omega), List.drop_append_of_le_length (by omega), List.drop_of_length_le (by omega), List.nil_append, ih, List.take_append_of_le_length (by omega), List.take_of_length_le (by omega)]
def num2 (b : Bts) : Nat := (b.getD 0 0).toNat * 256 + (b.getD 1 0).toNat
def xe7 (E : Bts) (b : Bts) : Option (List Bts × EndR) :=
  if b.length < 2 then none
  else if 256 < num2 b then none
  else if (b.drop 2).length < (num2 b + 7) / 8 then none
  else match xcy E ((b.drop 2).take ((num2 b + 7) / 8)) (num2 b) 0 ((b.drop 2).drop ((num2 b + 7) / 8)) with
    | none => none
    | some (l, q) => match decE q with
      | .bad => none
      | x => some (l, x)
theorem xt7 (n : Nat) (h : n < 65536) (r : Bts) : num2 (put2 n ++ r) = n := by
  unfold num2 put2; simp only [qm, qi, qj, UInt8.toNat_ofNat']; omega
theorem xqy (E : Bts) (p : Pf) (h : p.Ok) : xe7 E (encP E p) = some (p.sides, .end_ p.fin) := by
  have hn : p.sides.length < 65536 := by have := h.few; omega
  have hb := xd0 E p.sides p.sides.length; have e0 : num2 (encP E p) = p.sides.length := by unfold encP; exact xt7 _ hn _
  have e1 : (encP E p).drop 2 = xbp E p.sides p.sides.length ++ (xdo E p.sides p.sides.length ++ endT p.fin) := by unfold encP put2; rfl
  unfold xe7; rw [if_neg (by unfold encP put2; simp), e0, if_neg (by have := h.few; omega), e1, if_neg (by rw [List.length_append, hb]; omega)]; rw [List.take_append_of_le_length (by omega), List.take_of_length_le (by omega), List.drop_append_of_le_length (by omega), List.drop_of_length_le (by omega), List.nil_append]
  have h2 : xcy E (xbp E p.sides p.sides.length) p.sides.length 0 (xdo E p.sides p.sides.length ++ endT p.fin) = some (p.sides, endT p.fin) := by
    unfold xdo; rw [List.take_length]; refine xo7 E _ p.sides _ 0 h.s32 (fun j hj => ?_); rw [Nat.zero_add, xt6 _ _ _ _ (Nat.le_refl _)]; simp [hj]
  rw [h2]; simp only [xie p.fin h.f32]
def decP (E : Bts) (b : Bts) : Option Pf :=
  match xe7 E b with
  | some (l, .end_ f) => if encP E ⟨l, f⟩ = b then some ⟨l, f⟩ else none
  | _ => none
theorem xt8 (E : Bts) (p : Pf) (h : p.Ok) : decP E (encP E p) = some p := by
  unfold decP; rw [xqy E p h]; simp
theorem xlw (E bits : Bts) (hE : E.length = 32) (n : Nat) : ∀ (i : Nat) (r : Bts) (l : List Bts) (q : Bts), xcy E bits n i r = some (l, q) → l.length = n ∧ ∀ s ∈ l, s.length = 32 := by
  induction n with
  | zero => intro i r l q h; simp [xcy] at h; obtain ⟨rfl, rfl⟩ := h; simp
  | succ n ih =>
    intro i r l q h; unfold xcy at h
    split at h
    · split at h
      · cases h
      · rename_i h32
        split at h
        · cases h
        · rename_i l' q' he
          injection h with h; injection h with h1 h2; subst h1; subst h2; obtain ⟨h3, h4⟩ := ih _ _ _ _ he; refine ⟨by simp [h3], fun s hs => ?_⟩; rcases List.mem_cons.1 hs with rfl | hs
          · simp; omega
          · exact h4 s hs
    · split at h
      · cases h
      · rename_i l' q' he
        injection h with h; injection h with h1 h2; subst h1; subst h2; obtain ⟨h3, h4⟩ := ih _ _ _ _ he; refine ⟨by simp [h3], fun s hs => ?_⟩; rcases List.mem_cons.1 hs with rfl | hs
        · exact hE
        · exact h4 s hs
theorem decE_ok (b : Bts) (f : Option (Bts × Bts)) (h : decE b = .end_ f) : ∀ k v, f = some (k, v) → k.length = 32 ∧ v.length = 32 := by
  unfold decE at h
  split at h
  · injection h with h; subst h; intro k v e; cases e
  · split at h
    · rename_i h1
      injection h with h; subst h; intro k v e; injection e with e; injection e with e1 e2; subst e1; subst e2; have := h1.1
      simp; omega
    · split at h <;> cases h
theorem xfl (E : Bts) (hE : E.length = 32) (b : Bts) (p : Pf) (h : decP E b = some p) : p.Ok := by
  unfold decP at h
  split at h
  · rename_i l f hr
    split at h
    · injection h with h; subst h
      unfold xe7 at hr
      split at hr
      · cases hr
      split at hr
      · cases hr
      split at hr
      · cases hr
      split at hr
      · cases hr
      · rename_i l' q hs
        obtain ⟨h1, h2⟩ := xlw E _ hE _ _ _ _ _ hs
        split at hr
        · cases hr
        · rename_i x hd
          injection hr with hr; injection hr with hr1 hr2; subst hr1; exact ⟨by show l'.length ≤ _; omega, h2, decE_ok q f (by rw [← hr2])⟩
    · cases h
  · cases h
end Go.Proofs.YtkjjdgnkelchfaaGreat
namespace Go.Proofs.YtkjjdgnkelchfaaGreat
open Go Go.RowKit
def Gw (E z : Nat) (G : List (Nat × Nat × List Value)) (v : Sv) (n : Nat) (xs : List Value) : Prop :=
  xs.length = n * z ∧ ((G = [] ∧ v = Sv.nil ∧ n = 0) ∨ ∃ g cap tl, G = [(g, E, xs ++ tl)] ∧ v = ⟨some ⟨g, 0, none⟩, n, cap⟩ ∧ n ≤ cap ∧ cap ≤ maxLen ∧ (xs ++ tl).length = cap * z)
theorem Gw.nil (E z : Nat) : Gw E z [] Sv.nil 0 [] := ⟨by simp, .inl ⟨rfl, rfl, rfl⟩⟩
theorem Gw.zero (E z g : Nat) : Gw E z [(g, E, [])] ⟨some ⟨g, 0, none⟩, 0, 0⟩ 0 [] := ⟨by simp, .inr ⟨g, 0, [], rfl, rfl, Nat.le_refl _, by unfold maxLen; omega, by simp⟩⟩
theorem Gw.len {E z n : Nat} {G : List (Nat × Nat × List Value)} {v : Sv} {xs : List Value} (h : Gw E z G v n xs) : v.n = n := by
  obtain ⟨_, ⟨_, rfl, rfl⟩ | ⟨g, cap, tl, _, rfl, _, _, _⟩⟩ := h <;> rfl
theorem Gw.cap {E z n : Nat} {G : List (Nat × Nat × List Value)} {v : Sv} {xs : List Value} (h : Gw E z G v n xs) : v.n ≤ v.c ∧ v.c ≤ maxLen := by
  obtain ⟨_, ⟨_, rfl, rfl⟩ | ⟨g, cap, tl, _, rfl, h2, h3, _⟩⟩ := h
  · exact ⟨Nat.le_refl _, by show 0 ≤ _; omega⟩
  · exact ⟨h2, h3⟩
section
variable {P : Program} {T E : TypeId} {z b : Nat} {zv : Value} {w0 w : World} {D : Nat → Prop} {L L0 L1 G : List (Nat × Nat × List Value)} {ops : Array Oper} {rest : List Oper} {o : Oper} {a : Act} {K : Act → World → Prop} {Q : Exit → Act → World → Prop}
theorem Gw.rd {n : Nat} {v : Sv} {xs : List Value} (h : Gw E z G v n xs) (H : Loc w0 D (L0 ++ (G ++ L1)) w) : Rd w v.A xs := by
  obtain ⟨hl, ⟨rfl, rfl, rfl⟩ | ⟨g, cap, tl, rfl, rfl, h1, h2, h3⟩⟩ := h
  · have : xs = [] := List.eq_nil_of_length_eq_zero (by rw [hl]; omega)
    subst this; exact Rd.nil _ _
  · exact Rd.of_blk0 (H.blk (g := g) (t := E) (cs := xs ++ tl) (by simp))
theorem Gw.owns {n : Nat} {v : Sv} {xs : List Value} (h : Gw E z G v n xs) (H : Loc w0 D (L0 ++ (G ++ L1)) w) : w.ownsRow 0 E z v.v n xs := by
  obtain ⟨hl, ⟨rfl, rfl, rfl⟩ | ⟨g, cap, tl, rfl, rfl, h1, h2, h3⟩⟩ := h
  · exact ⟨hl, .inl ⟨rfl, rfl⟩⟩
  · refine ⟨hl, .inr ⟨g, cap, (xs ++ tl).toArray, rfl, Nat.zero_le _, H.blk (g := g) (t := E) (cs := xs ++ tl) (by simp), h1, h2, by simpa using h3, ?_⟩⟩
    show (xs ++ tl).take (n * z) = xs; rw [List.take_append_of_le_length (by omega), List.take_of_length_le (by omega)]
theorem xqz {g t : Nat} {cs : List Value} (h : (L0 ++ L1).Pairwise (fun x y => x.1 ≠ y.1)) (hn : ∀ y ∈ L0 ++ L1, y.1 ≠ g) : (L0 ++ ([(g, t, cs)] ++ L1)).Pairwise (fun x y => x.1 ≠ y.1) := by
  obtain ⟨p1, p2, p3⟩ := List.pairwise_append.1 h; refine List.pairwise_append.2 ⟨p1, List.pairwise_cons.2 ⟨fun y hy e => hn y (by simp [List.mem_append.2 (.inr hy)]; exact .inr hy) e.symm, p2⟩, ?_⟩; intro x hx y hy; rcases List.mem_cons.1 hy with rfl | hy
  · exact hn x (List.mem_append.2 (.inl hx))
  · exact p3 x hx y hy
theorem Gw.grow {n m : Nat} {v v' : Sv} {xs ys : List Value} {w' : World} (hG : Gw E z G v n xs) (H : Loc w0 D (L0 ++ (G ++ L1)) w) (hm : 0 < m) (hown : w'.ownsRow 0 E z v'.v (n + m) (xs ++ ys)) (hg : w.grownBy w' v.v.ownBlock)
    (hb : ∀ k, v'.v.ownBlock = some k → v.v.ownBlock = some k ∨ k = w.heap.size) : ∃ G', Gw E z G' v' (n + m) (xs ++ ys) ∧ Loc w0 D (L0 ++ (G' ++ L1)) w' := by
  obtain ⟨hl', ⟨_, h0⟩ | ⟨g', cap', cur, hv', _, hk, hn', hm', hs', ht'⟩⟩ := hown
  · omega
  have hsub : (L0 ++ L1).Sublist (L0 ++ (G ++ L1)) := List.Sublist.append (List.Sublist.refl _) (sA _ _); have hcur : cur.toList = (xs ++ ys) ++ cur.toList.drop ((n + m) * z) := by rw [← ht', List.take_append_drop]
  have hblk : Blk w' g' E ((xs ++ ys) ++ cur.toList.drop ((n + m) * z)) := by
    unfold Blk; rw [hk, ← hcur]
  have hnew : ¬ D g' ∧ ∀ y ∈ L0 ++ L1, y.1 ≠ g' := by
    have h1 := hb g' (by rw [hv']; rfl)
    have h2 : g' = w.heap.size → ¬ D g' ∧ ∀ y ∈ L0 ++ L1, y.1 ≠ g' := by
      intro e; refine ⟨fun hd => by have := H.lt hd; omega, fun y hy e2 => ?_⟩; have := (H.own y (hsub.subset hy)).2.lt; omega
    rcases h1 with h1 | h1
    · obtain ⟨_, ⟨rfl, rfl, rfl⟩ | ⟨g, cap, tl, rfl, rfl, _, _, _⟩⟩ := hG
      · cases h1
      · have e : g = g' := by injection h1
        subst e; refine ⟨(H.own (g, E, xs ++ tl) (by simp)).1, fun y hy e2 => ?_⟩; obtain ⟨p1, p2, p3⟩ := List.pairwise_append.1 H.nd; obtain ⟨p4, p5⟩ := List.pairwise_cons.1 p2; rcases List.mem_append.1 hy with hy | hy
        · exact p3 y hy (g, E, xs ++ tl) (by simp) e2
        · exact p4 y hy e2.symm
    · exact h2 h1
  have hold : ∀ k, v.v.ownBlock = some k → ¬ D k ∧ ∀ y ∈ L0 ++ L1, y.1 ≠ k := by
    intro k e; obtain ⟨_, ⟨rfl, rfl, rfl⟩ | ⟨g, cap, tl, rfl, rfl, _, _, _⟩⟩ := hG
    · cases e
    · have e : g = k := by injection e
      subst e; refine ⟨(H.own (g, E, xs ++ tl) (by simp)).1, fun y hy e2 => ?_⟩; obtain ⟨p1, p2, p3⟩ := List.pairwise_append.1 H.nd; obtain ⟨p4, p5⟩ := List.pairwise_cons.1 p2; rcases List.mem_append.1 hy with hy | hy
      · exact p3 y hy (g, E, xs ++ tl) (by simp) e2
      · exact p4 y hy e2.symm
  refine ⟨[(g', E, (xs ++ ys) ++ cur.toList.drop ((n + m) * z))], ⟨hl', .inr ⟨g', cap', _, rfl, ?_, hn', hm', ?_⟩⟩, ?_, ?_, ?_, H.old⟩
  · cases v'
    simp only [Sv.v] at hv'; injection hv' with e1 e2 e3; subst e1 e2 e3; rfl
  · rw [← hcur]; simpa using hs'
  · exact H.fr.grown hg (fun k e => .inl (hold k e).1)
  · intro x hx
    rcases List.mem_append.1 hx with hx1 | hx1
    · have hx2 := H.own x (hsub.subset (List.mem_append.2 (.inl hx1)))
      exact ⟨hx2.1, hx2.2.grown hg (fun e => (hold x.1 e.symm).2 x (List.mem_append.2 (.inl hx1)) rfl)⟩
    · rcases List.mem_cons.1 hx1 with rfl | hx1
      · exact ⟨hnew.1, hblk⟩
      · have hx2 := H.own x (hsub.subset (List.mem_append.2 (.inr hx1)))
        exact ⟨hx2.1, hx2.2.grown hg (fun e => (hold x.1 e.symm).2 x (List.mem_append.2 (.inr hx1)) rfl)⟩
  · exact xqz (H.nd.sublist hsub) hnew.2
theorem xam (B : ST P T E z) (I : ET P E zv z b) (s x : Operand) (ho : o.op = .call { callee := .builtin .append, args := #[s, x], argTypes := #[T, T] }) (L0 : List (Nat × Nat × List Value)) (n : Nat) (v : Sv) (xs : List Value) (hG : Gw E z G v n xs) (H : Loc w0 D (L0 ++ (G ++ L1)) w) (hs : a.eval s = v.v)
    (ad : Addr) (m c : Nat) (ys : List Value) (hx : a.eval x = .slice (some ad) m c) (hr : Rd w (some ad) ys) (hy : ys.length = m * z) (h1 : ∀ u ∈ ys, u.oneCell' = true) (hm : 0 < m) (hbytes : (n + m) * b ≤ 140737488355328) (h63 : n + m ≤ 140737488355328)
    (h : ∀ (v' : Sv) G' w', Gw E z G' v' (n + m) (xs ++ ys) → Loc w0 D (L0 ++ (G' ++ L1)) w' → K (a.put o.dst v'.v) w') : o.wp P a w K Q := by
  refine xfg B I s x ho v n xs hs (hG.owns H) ad m c ys hx hr hy h1 hm hbytes h63 ?_; intro v' w' h2 h3 h4 _; obtain ⟨G', h5, h6⟩ := hG.grow H hm h2 h3 h4; exact h v' G' w' h5 h6
theorem xi7 (B : ST P T E z) (I : ET P E zv z b) (ty : TypeId) (v : Sv) (hv : v.n ≤ v.c) (A : Option Addr) (c : Nat) : (Builtin.append_ #[T, T] ty #[v.v, .slice A 0 c]).run P w = .ok v.v w := by
  obtain ⟨i, hi, hzz, hsz, _⟩ := info_parts I.i; obtain ⟨B1, n, c1⟩ := v; have hv' : ¬ c1 < n := by have : n ≤ c1 := hv; omega
  cases A <;> cases B1 <;> simp [Sv.v, Builtin.append_, run_underlying B.t, sizeOf, typeInfo, hi, Builtin.lenOf, Builtin.firstCells, loadCells, loadCellsFrom, storeCells, hv']
theorem xes (B : ST P T E z) (I : ET P E zv z b) (s x : Operand) (ho : o.op = .call { callee := .builtin .append, args := #[s, x], argTypes := #[T, T] }) (L0 : List (Nat × Nat × List Value)) (n : Nat) (v : Sv) (xs : List Value) (hG : Gw E z G v n xs) (H : Loc w0 D (L0 ++ (G ++ L1)) w) (hs : a.eval s = v.v)
    (A : Option Addr) (m c : Nat) (ys : List Value) (hx : a.eval x = .slice A m c) (hr : Rd w A ys) (hy : ys.length = m * z) (h1 : ∀ u ∈ ys, u.oneCell' = true) (hbytes : (n + m) * b ≤ 140737488355328) (h63 : n + m ≤ 140737488355328)
    (h : ∀ (v' : Sv) G' w', Gw E z G' v' (n + m) (xs ++ ys) → Loc w0 D (L0 ++ (G' ++ L1)) w' → K (a.put o.dst v'.v) w') : o.wp P a w K Q := by
  by_cases h0 : m = 0
  · subst h0
    have : ys = [] := List.eq_nil_of_length_eq_zero (by omega); subst this; have hrun := xi7 (w := w) B I o.type v hG.cap.1 A c; unfold Oper.wp execOp; simp only [ho, resolve, invoke, builtin, Sem.run_bind, Sem.run_pure, Result.andThen_ok, List.map_toArray, qk, ql, hs, hx, hrun]; exact h v G w (by simpa using hG) H
  · have hp := I.p
    obtain ⟨ad, rfl, _⟩ := hr (by rw [hy]; exact Nat.mul_pos (by omega) hp); exact xam B I s x ho L0 n v xs hG H hs ad m c ys hx hr hy h1 (by omega) hbytes h63 h
theorem xt9 (B : ST P T E z) (I : ET P E zv z b) (ho : o.op = .buildSlice T 0 #[]) (H : Loc w0 D L w) (h : ∀ g w', Loc w0 D ((g, E, []) :: L) w' → K (a.put o.dst (.slice (some ⟨g, 0, none⟩) 0 0)) w') : o.wp P a w K Q := by
  obtain ⟨i, hi, hzz, hsz, _⟩ := info_parts I.i; have hp := I.p
  have hr : (Instr.buildSlice T 0 #[]).run P w = .ok (.slice (some ⟨w.heap.size, 0, none⟩) 0 0) (w.alloc (.cells #[] E)) := by
    simp [Instr.buildSlice, run_underlying B.t, sizeOf, typeInfo, hi, newRow, Instr.fill]; rw [show Array.range 0 = #[] by decide, Array.map_empty]
  unfold Oper.wp execOp; simp only [ho, Sem.run_bind, List.map_toArray, ql, Array.map_empty, hr, Result.andThen_ok]; exact h _ _ (H.new E [])
theorem xds (B : ST P T E 1) (I : ET P E zv 1 b) (n : Nat) (parts : Array (Nat × Operand)) (ho : o.op = .buildSlice T n parts) (H : Loc w0 D L w) (vs : List Value) (h1 : ∀ u ∈ vs, u.oneCell' = true) (hn : vs.length = n) (h0 : 0 < n) (hm : n ≤ 10000)
    (hx : (parts.map fun (i, x) => (i, a.eval x)).toList = (vs.zipIdx 0).map fun x => (x.2, x.1)) (h : ∀ g w', Loc w0 D ((g, E, vs) :: L) w' → K (a.put o.dst (.slice (some ⟨g, 0, none⟩) n n)) w') : o.wp P a w K Q := by
  obtain ⟨i, hi, hzz, hsz, _⟩ := info_parts I.i; refine wp_buildSlice T E n _ ho vs.toArray i _ B.t hi hzz (by rw [hsz]; omega) (by rw [hsz]; omega) ?_ (h _ _ (H.new E vs)); have hc : ∀ v ∈ vs, v.cells = #[v] := fun v hv => by have := h1 v hv; cases v <;> first | rfl | (simp [Value.oneCell'] at this)
  rw [hx, hsz, Great.fill_whole (by omega) _ _ ?_ ?_]
  · congr 2
    clear hx hn h
    induction vs with
    | nil => rfl
    | cons v vs ih =>
      rw [List.flatMap_cons, hc v (by simp), ih (fun u hu => h1 u (by simp [hu])) (fun u hu => hc u (by simp [hu]))]; rfl
  · intro u hu
    rw [hc u hu]; rfl
  · simp [hn]
theorem Loc.perm (H : Loc w0 D L w) {L' : List (Nat × Nat × List Value)} (hp : L'.Perm L) : Loc w0 D L' w :=
  ⟨H.fr, fun x hx => H.own x (hp.subset hx), (hp.symm.pairwise H.nd (fun h e => h e.symm)), H.old⟩
theorem Loc.took {w' : World} {v : Value} {l : List UInt8} (H : Loc w0 D L w) (hb : Below w.heap.size w w') (ho : OwnB w' w.heap.size E v l) : ∃ G sv, v = Sv.v sv ∧ Gw E 1 G sv l.length (bvs l) ∧ Loc w0 D (L ++ (G ++ [])) w' := by
  have H' := H.next hb; rcases ho with ⟨rfl, rfl⟩ | ⟨g, sp, rfl, hg, hm, hk⟩
  · exact ⟨[], Sv.nil, rfl, Gw.nil _ _, by simpa using H'⟩
  · refine ⟨[(g, E, bvs l ++ bvs sp)], ⟨some ⟨g, 0, none⟩, l.length, l.length + sp.length⟩, rfl, ⟨by simp [bvs], .inr ⟨g, l.length + sp.length, bvs sp, rfl, rfl, by omega, hm, by simp [bvs]⟩⟩, H'.fr, ?_, ?_, H'.old⟩
    · intro x hx
      rcases List.mem_append.1 hx with hx | hx
      · exact H'.own x hx
      · simp at hx
        subst hx; exact ⟨fun hd => by have := H.lt hd; omega, by rw [← xbz]; exact hk⟩
    · refine List.pairwise_append.2 ⟨H'.nd, by simp, fun x hx y hy e => ?_⟩
      simp at hy; subst hy; have := (H.own x hx).2.lt; have e' : x.1 = g := e; omega
theorem xo8 {T E S : TypeId} (B : BT P T E S) (l c : Operand) (ho : o.op = Op.makeSlice T l c) (H : Loc w0 D L w) (kl kc : IntKind) (n m : Nat) (hl : a.eval l = .int kl n) (hc : a.eval c = .int kc m) (hnc : n ≤ m) (hm : m ≤ 281474976710656)
    (h : ∀ g w', Loc w0 D ((g, E, bvs (List.replicate m 0)) :: L) w' → K (a.put o.dst (.slice (some ⟨g, 0, none⟩) n m)) w') : o.wp P a w K Q := by
  have hr := xec (w := w) B kl kc n m hnc hm; unfold Oper.wp execOp; simp only [ho, hl, hc, Sem.run_bind, hr, Result.andThen_ok]; exact h _ _ (H.new E (bvs (List.replicate m 0)))
theorem xbh (B : W1 P T) (x y : Operand) (ho : o.op = .store T x y) (H : Loc w0 D L w) (i g k t : Nat) (cs cs' : List Value) (v : Value) (hx : a.eval x = .pointer (some ⟨g, k, none⟩)) (hL : L[i]? = some (g, t, cs))
    (hy : a.eval y = v) (h1 : v.oneCell' = true) (hf : k < cs.length) (hc : cs.set k v = cs') (h : ∀ w', Loc w0 D (L.set i (g, t, cs')) w' → K (a.put o.dst undef) w') : o.wp P a w K Q := by
  have hb := H.blk (List.mem_of_getElem? hL); refine xb5 B.i x y ho g k t cs v hx hy h1 hb hf (h _ ?_); refine H.putAt hL ?_ (xct _ _ _ _); rw [← hc]; exact hb.set_ k v
theorem xlx {n : Nat} (hi : AT P T n) (x y : Operand) (ho : o.op = .store T x y) (H : Loc w0 D L w) (i g k t : Nat) (cs vs cs' : List Value) (hx : a.eval x = .pointer (some ⟨g, k, none⟩)) (hL : L[i]? = some (g, t, cs))
    (hy : a.eval y = .agg vs.toArray) (hn : vs.length = n) (hf : k + n ≤ cs.length) (h1 : ∀ u ∈ vs, u.oneCell' = true) (hc : splice cs k vs = cs') (h : ∀ w', Loc w0 D (L.set i (g, t, cs')) w' → K (a.put o.dst undef) w') : o.wp P a w K Q := by
  refine xav hi.i x y ho g k t cs vs hx hy (H.blk (List.mem_of_getElem? hL)) hn hf h1 fun w' hb hg _ => h w' ?_
  rw [hc] at hb; exact H.putAt hL hb hg
theorem Loc.toEnd {x : Nat × Nat × List Value} (H : Loc w0 D (x :: L) w) : Loc w0 D (L ++ ([x] ++ [])) w := H.perm (by simp)
end
def xo9 (x : Nod) : EndR → Prop
  | .bad => False
  | .end_ none => x = Nod.z
  | .end_ (some (k, v)) => ∃ K V : D32, K.l = k ∧ V.l = v ∧ x = ⟨1, K, V, D32.z, D32.z⟩
  | .inner l r => ∃ K V : D32, K.l = l ∧ V.l = r ∧ x = ⟨2, D32.z, D32.z, K, V⟩
theorem xpa (A : Option Addr) (n c : Nat) (l : List UInt8) (w : World) (h : Tx w A n c l) : Calls Tryz.prog 99 #[.slice A n c] w fun e w' => ∃ (x : Nod) (er : Int), e = .returned (.tuple #[.agg x.cells.toArray, .int .i64 er]) ∧ Below w.heap.size w w' ∧ ((er = 0 ∧ xo9 x (decE l)) ∨ (er = 10 ∧ decE l = .bad)) := by
  have hl := h.len; by_cases h1 : n = 1
  · subst h1
    obtain ⟨b, rfl⟩ : ∃ b, l = [b] := by
      match l, hl with
      | [b], _ => exact ⟨b, rfl⟩
    by_cases h0 : b = 0
    · subst h0
      refine (xnf A c _ h rfl).mono ?_; rintro e w' ⟨rfl, hb⟩; exact ⟨_, _, rfl, hb, .inl ⟨rfl, rfl⟩⟩
    · refine (xo3 A c _ h h0).mono ?_
      rintro e w' ⟨rfl, hb⟩; refine ⟨_, _, rfl, hb, .inr ⟨rfl, ?_⟩⟩; unfold decE; rw [if_neg (by simpa using h0), if_neg (by simp), if_neg (by simp)]
  · have hne : l ≠ [0] := by rintro rfl; exact h1 hl.symm
    by_cases h65 : n = 65
    · subst h65
      by_cases k1 : l.getD 0 0 = 1
      · refine (xni A c l h hl k1).mono ?_
        rintro e w' ⟨rfl, hb⟩; refine ⟨_, _, rfl, hb, .inl ⟨rfl, ?_⟩⟩; unfold decE; rw [if_neg hne, if_pos ⟨hl, k1⟩]; refine ⟨_, _, rfl, ?_, rfl⟩; show (l.drop 33).take 32 = l.drop 33; rw [List.take_of_length_le (by simp; omega)]
      · by_cases k2 : l.getD 0 0 = 2
        · refine (xlf A c l h hl k2).mono ?_
          rintro e w' ⟨rfl, hb⟩; refine ⟨_, _, rfl, hb, .inl ⟨rfl, ?_⟩⟩; unfold decE; rw [if_neg hne, if_neg (fun e => k1 e.2), if_pos ⟨hl, k2⟩]; refine ⟨_, _, rfl, ?_, rfl⟩; show (l.drop 33).take 32 = l.drop 33; rw [List.take_of_length_le (by simp; omega)]
        · refine (xng A c l h k1 k2).mono ?_
          rintro e w' ⟨rfl, hb⟩; refine ⟨_, _, rfl, hb, .inr ⟨rfl, ?_⟩⟩; unfold decE; rw [if_neg hne, if_neg (fun e => k1 e.2), if_neg (fun e => k2 e.2)]
    · refine (xo4 A n c l h h1 h65).mono ?_
      rintro e w' ⟨rfl, hb⟩; refine ⟨_, _, rfl, hb, .inr ⟨rfl, ?_⟩⟩; unfold decE; rw [if_neg hne, if_neg (fun e => h65 (hl.symm.trans e.1)), if_neg (fun e => h65 (hl.symm.trans e.1))]
section
variable {P : Program} {w : World} {a : Act} {o : Oper} {t t' : TypeId}
theorem xq0 (x y : Operand) (ho : o.op = .binOp .quo t x y t') (n : Nat) (hx : a.eval x = .int .i64 (n : Int)) (hy : a.eval y = .int .i64 8) (hn : n ≤ 9223372036854775807) (m : Nat) (hm : n / 8 = m) :
    (execOp a.eval o).run P w = .ok (.value (.int .i64 (m : Int))) w := by
  have e : IntKind.i64.wrap ((n : Int).tdiv 8) = (m : Int) := by
    rw [Int.tdiv_eq_ediv_of_nonneg (by omega), IntWalk.i64_in _ (by omega)]; omega
  have e2 : IntKind.i64.wrap ((n : Int) / 8) = (m : Int) := by
    rw [IntWalk.i64_in _ (by omega)]; omega
  unfold execOp; simp only [ho, hx, hy]; go_simp
  try first | exact congrArg (fun z => Result.ok (Next.value (Value.int .i64 z)) w) e | exact congrArg (fun z => Result.ok (Next.value (Value.int .i64 z)) w) e2 | exact e | exact e2
theorem xq1 (x y : Operand) (ho : o.op = .binOp .rem t x y t') (n : Nat) (hx : a.eval x = .int .i64 (n : Int)) (hy : a.eval y = .int .i64 8) (hn : n ≤ 9223372036854775807) (m : Nat) (hm : n % 8 = m) :
    (execOp a.eval o).run P w = .ok (.value (.int .i64 (m : Int))) w := by
  have e : IntKind.i64.wrap ((n : Int).tmod 8) = (m : Int) := by
    rw [Int.tmod_eq_emod_of_nonneg (by omega), IntWalk.i64_in _ (by omega)]; omega
  have e2 : IntKind.i64.wrap ((n : Int) % 8) = (m : Int) := by
    rw [IntWalk.i64_in _ (by omega)]; omega
  unfold execOp; simp only [ho, hx, hy]; go_simp; rw [Int.tmod_eq_emod_of_nonneg (by omega)]; omega
theorem xpb (x y : Operand) (ho : o.op = .binOp .shr t x y t') (s : Nat) (hx : a.eval x = .int .u8 128) (hy : a.eval y = .int .i64 (s : Int)) (hs : s < 8) (d : Nat) (hd : 2 ^ (7 - s) = d) :
    (execOp a.eval o).run P w = .ok (.value (.int .u8 (d : Int))) w := by
  subst hd; unfold execOp; simp only [ho, hx, hy]
  match s, hs with
  | 0, _ => rfl
  | 1, _ => rfl
  | 2, _ => rfl
  | 3, _ => rfl
  | 4, _ => rfl
  | 5, _ => rfl
  | 6, _ => rfl
  | 7, _ => rfl
theorem xpc (x y : Operand) (ho : o.op = .binOp .or t x y t') (m n : Nat) (hx : a.eval x = .int .u8 (m : Int)) (hy : a.eval y = .int .u8 (n : Int)) (hm : m < 256) (hn : n < 256) :
    (execOp a.eval o).run P w = .ok (.value (.int .u8 ((m ||| n : Nat) : Int))) w := by
  have e := u8_or_nat m n hm hn; unfold execOp; simp only [ho, hx, hy]; rw [← e]; rfl
theorem xly (x y : Operand) (ho : o.op = .binOp .and t x y t') (m n : Nat) (hx : a.eval x = .int .u8 (m : Int)) (hy : a.eval y = .int .u8 (n : Int)) (hm : m < 256) (hn : n < 256) :
    (execOp a.eval o).run P w = .ok (.value (.int .u8 ((m &&& n : Nat) : Int))) w := by
  have e := u8_and_nat m n hm hn; unfold execOp; simp only [ho, hx, hy]; rw [← e]; rfl
end
theorem tb_and (b : List UInt8) (i : Nat) : ((((b.getD (i / 8) 0).toNat &&& 2 ^ (7 - i % 8) : Nat) : Int) == 0) = !tb b i := by
  unfold tb; generalize (b.getD (i / 8) 0).toNat = x; generalize 7 - i % 8 = k
  cases h : x.testBit k with
  | true =>
    have : x &&& 2 ^ k ≠ 0 := by
      intro e; have h2 := congrArg (fun y => y.testBit k) e; simp [Nat.testBit_and, h, Nat.testBit_two_pow_self] at h2
    exact nB (by omega)
  | false =>
    have : x &&& 2 ^ k = 0 := by
      apply Nat.eq_of_testBit_eq; intro j; rw [Nat.testBit_and, Nat.testBit_two_pow, Nat.zero_testBit]; by_cases hj : k = j
      · subst hj; simp [h]
      · simp [hj]
    rw [this]; rfl
theorem xq2 (i : Nat) : 2 ^ (7 - i % 8) < 256 := Nat.pow_lt_pow_right (a := 2) (m := 7 - i % 8) (n := 8) (by omega) (by omega)
theorem xnj (b : List UInt8) (i : Nat) : (bvs b).set (i / 8) (.int .u8 (((b.getD (i / 8) 0).toNat ||| 2 ^ (7 - i % 8) : Nat) : Int)) = bvs (xfk b i) := by
  unfold xfk; rw [← xg6]; congr 1; unfold bv; have h : (b.getD (i / 8) 0).toNat ||| 2 ^ (7 - i % 8) < 2 ^ 8 := Nat.or_lt_two_pow (UInt8.toNat_lt _) (xq2 i); rw [UInt8.toNat_ofNat', Nat.mod_eq_of_lt h]
end Go.Proofs.YtkjjdgnkelchfaaGreat
