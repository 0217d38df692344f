import Derived.Test.YtkjjdgnkelchfaaGreatPTU12
set_option linter.unusedSimpArgs false
set_option linter.unusedVariables false
set_option maxRecDepth 100000
set_option maxHeartbeats 16000000
namespace Go.Proofs.YtkjjdgnkelchfaaGreat
open Go Go.RowKit
def sayP (root key : Bts) (p : Pf) : Option (Option Bts) :=
  if upW shaL (tb key) 0 p.sides (endT p.fin) = root then
    match p.fin with
    | none => some none
    | some (k, v) => if xa1 k key p.sides.length then (if k = key then some (some v) else some none) else none
  else none
def accP (root key b : Bts) : Option (Option Bts) := match decP tagE.l b with
  | none => none
  | some p => sayP root key p
theorem xl2 {root key b : Bts} {x : Option Bts} (h : accP root key b = some x) : ∃ p, decP tagE.l b = some p ∧ sayP root key p = some x := by
  unfold accP at h
  split at h
  · cases h
  · rename_i p hp; exact ⟨p, hp, h⟩
theorem xpl {root key : Bts} {p : Pf} {x : Option Bts} (h : sayP root key p = some x) : upW shaL (tb key) 0 p.sides (endT p.fin) = root := by
  unfold sayP at h
  split at h
  · assumption
  · cases h
theorem xpm (f : Option (Bts × Bts)) : EndT (endT f) := by
  cases f with
  | none => exact ⟨0, [], rfl, by decide⟩
  | some x => obtain ⟨k, v⟩ := x; exact ⟨1, k ++ v, rfl, by decide⟩
theorem endT_inj {f g : Option (Bts × Bts)} (hf : ∀ k v, f = some (k, v) → k.length = 32 ∧ v.length = 32) (hg : ∀ k v, g = some (k, v) → k.length = 32 ∧ v.length = 32) (e : endT f = endT g) : f = g := by
  have h1 := xie f hf; rw [e, xie g hg] at h1; injection h1 with h1; exact h1.symm
def xb4 (key : Bts) (p : Pf) : List Bts := xb0 shaL (tb key) 0 p.sides (endT p.fin)
theorem xig (key : Bts) (p : Pf) : (xb4 key p).length = p.sides.length + 1 := xgn _ _ _ _ _
theorem acc_part {root key b c : Bts} {x y : Option Bts} (h : accP root key b = some x) (k : accP root key c = some y) (hne : x ≠ y) :
    ∃ p q, decP tagE.l b = some p ∧ decP tagE.l c = some q ∧ ∃ i, i < (xb4 key p).length ∧ i < (xb4 key q).length ∧ (∀ j, j < i → (xb4 key p).getD j [] = (xb4 key q).getD j []) ∧
      (xb4 key p).getD i [] ≠ (xb4 key q).getD i [] ∧ shaL ((xb4 key p).getD i []) = shaL ((xb4 key q).getD i []) := by
  obtain ⟨p, hp, h1⟩ := xl2 h; obtain ⟨q, hq, k1⟩ := xl2 k; refine ⟨p, q, hp, hq, ?_⟩; have hE := tagE.h; have op := xfl _ hE _ _ hp; have oq := xfl _ hE _ _ hq
  obtain ⟨i, h3, h4, h5, h6, h7⟩ := part_law shaL xbb (tb key) p.sides q.sides (endT p.fin) (endT q.fin) 0 op.s32 oq.s32 (xpm _) (xpm _) ((xpl h1).trans (xpl k1).symm) (by
    rintro ⟨e1, e2⟩; have e3 := endT_inj op.f32 oq.f32 e2; have e4 : p = q := by cases p; cases q; cases e1; cases e3; rfl
    rw [e4] at h1; rw [h1] at k1; injection k1 with k1
    exact hne k1)
  exact ⟨i, by rw [xig]; exact h3, by rw [xig]; exact h4, h5, h6, h7⟩
theorem upD_upW (key : D32) (ds : List D32) (e : Bts) (d : Nat) : (upD key d ds (shaD e)).l = upW shaL (tb key.l) d (ds.map D32.l) e := by
  induction ds generalizing d with
  | nil => rfl
  | cons s ss ih =>
    rw [List.map_cons, upW, ← ih]; unfold xc9; rw [upD]; cases tb key.l d <;> rfl
theorem ret_cct {P : Program} {fn : Func} {p q u : Tmp} {ty n ty2 n2 : Nat} (h : fn.results = #[.cell p ty, .cell q ty2, .tmp u]) (B : AT P ty n) (B2 : AT P ty2 n2) (tmps : Array Value) (w : World) (g t g2 t2 : Nat) (vs us : List Value)
    (hp : tmps.getD p undef = .pointer (some ⟨g, 0, none⟩)) (hb : Blk w g t vs) (hn : vs.length = n) (hq : tmps.getD q undef = .pointer (some ⟨g2, 0, none⟩)) (hb2 : Blk w g2 t2 us) (hn2 : us.length = n2) :
    (results fn tmps).run P w = .ok (.tuple #[.agg vs.toArray, .agg us.toArray, tmps.getD u undef]) w := by
  obtain ⟨d, hu, hd⟩ := B.u; obtain ⟨d2, hu2, hd2⟩ := B2.u; have e1 := run_loadVar_row w g t ty vs.toArray (0, 0) d hb hu (by clear hb; cases d <;> simp_all) (by rw [B.i]; simp [hn]); have e2 := run_loadVar_row w g2 t2 ty2 us.toArray (0, 0) d2 hb2 hu2 (by clear hb2; cases d2 <;> simp_all) (by rw [B2.i]; simp [hn2]); rw [Array.getD_eq_getD_getElem?] at hp hq; simp only [results, h]; simp [Sem.run_bind, Result.andThen, hp, hq, asAddr, e1, e2]
section
variable {P : Program} {T : TypeId} {w0 w : World} {D : Nat → Prop} {L : List (Nat × Nat × List Value)} {o : Oper} {a : Act} {K : Act → World → Prop} {Q : Exit → Act → World → Prop}
theorem xd4 {n : Nat} (hi : AT P T n) (x y : Operand) (ho : o.op = .store T x y) (H : Loc w0 D L w) (i g t : Nat) (cs vs : List Value) (hx : a.eval x = .pointer (some ⟨g, 0, none⟩)) (hL : L[i]? = some (g, t, cs))
    (hy : a.eval y = .agg vs.toArray) (hn : vs.length = n) (hc : cs.length = n) (h1 : ∀ u ∈ vs, u.oneCell' = true) (h : ∀ w', Loc w0 D (L.set i (g, t, vs)) w' → K (a.put o.dst undef) w') : o.wp P a w K Q :=
  xlx hi x y ho H i g 0 t cs vs vs hx hL hy hn (by omega) h1 (by simp [splice, hn, hc]) h
end
theorem okN_kind {x : Nod} (h : okN x = true) (h2 : x.kind ≠ 2) : x.kind = 1 ∨ x.kind = 0 := by
  by_cases h1 : x.kind = 1
  · exact .inl h1
  · right
    unfold okN xdf at h; rw [if_neg h1, if_neg h2] at h
    have h3 : ((x.kind : Int) == ((0 : Nat) : Int)) = true := by
      unfold xer Nod.z at h; simp only [Bool.and_eq_true] at h; exact h.1
    have := eq_of_beq h3; omega
def VfR (n : Nat) (w0 : World) (key : D32) (l : List UInt8) (e : Ending) (w' : World) : Prop := ∃ (x : Prv) (t : D32) (er : Int), e = .returned (.tuple #[.agg x.cells.toArray, .agg t.c.toArray, .int .i64 er]) ∧ Below n w0 w' ∧
  ((er = 0 ∧ ∃ ds : List D32, decP tagE.l l = some (pfOf ds x.nod) ∧ ds.length = x.sides.n ∧ x.sides.n ≤ 256 ∧ t.l = upW shaL (tb key.l) 0 (ds.map D32.l) (endT (finN x.nod)) ∧ (x.kind = 1 ∨ x.kind = 0)) ∨ ((er == 0) = false ∧ decP tagE.l l = none))
section
variable {w w' : World}
theorem xq8 (key : D32) (A : Option Addr) (n c : Nat) (l : List UInt8) (w : World) (h : Tx w A n c l) (hn : n ≤ 140737488351232) : Calls Tryz.prog 104 #[key.a, .slice A n c] w (VfR w.heap.size w key l) := by
  have HT := hZ h; clear h; have HL := Loc.start w; obtain ⟨w0, rfl⟩ := eW w; go_enter Tryz.func104, Tryz.ntmps104; go_upto_region 0 with fail; refine X90 ?_; clear HL; intro g2 w HL; refine X5 ?_; refine xah zr34 rfl rfl HL ?_; clear HL; intro g4 w HL; refine X5 ?_; refine xah zr23 rfl rfl HL ?_; clear HL; intro g5 w HL; refine X1c ?_; go_upto_region 1 with fail; refine X1y ?_; intro K hK; refine xad cf7 rfl _ rfl ?_; refine Xby ?_; rintro e w ⟨x, er, rfl, hb, hx⟩; refine Xbn ?_; intro H1 hfr; replace HL := HL.after hb; clear hb; obtain ⟨w1, rfl⟩ := eW w; refine Xap ?_; intro HBK; generalize Rest w1 _ = D1 at HL HBK hfr; clear H1; refine X5c ?_; clear hK K; refine Xau ?_; clear HL; intro w HL; rcases hx with ⟨rfl, ds, hs, hfar, hdp, hok, hk, hl⟩ | ⟨rfl, hdp⟩
  · have hd := fun ad e h2 => hfr _ (hfar ad e) h2
    have HS := hZ hs; have HDP := hZ hdp; have hlen := hs.len; have hk0 : x.nod.kind ≠ 2 := hk; clear hs hdp hfr hfar; go_upto_region 2 with fail; refine Xa4 ?_; go_upto_region 4 with fail; refine Xv ?_; refine Xbz ?_; refine X5 ?_; refine Xc0 ?_; refine X57 ?_; intro K hK; refine xad cf165 rfl _ rfl ?_; refine X1z ?_; (with_reducible refine (up_ok key x ds (HS.out.keep HL hd) hl hok hk).mono ?_); refine X4i ?_; clear hK K; intro w HL; refine X5y ?_; refine X4k ?_; clear HL; intro w HL; generalize hup : upD key 0 ds (shaD (txtN x.nod)) = up at HL ⊢; have HUP := hZ hup; clear hup; go_upto_region 5 with fail; refine X6q ?_; intro HL; refine xac rfl rfl HL (fun W hW => xan ag34 hW _ rfl _ rfl _ _ (.tail _ (.head _)) (Prv.len _)) ?_; refine X5 ?_; refine X62 ?_; refine Xb7 ?_; intro K hK; refine xd4 ag34 _ _ rfl HL 1 g4 34 _ _ rfl rfl rfl (Prv.len _) (Prv.len _) (Prv.one _) ?_
    refine X2t ?_; clear HL; intro w HL; refine X3x ?_; clear hK K; intro K hK; refine xd4 ag23 _ _ rfl HL 0 g5 23 _ _ rfl rfl rfl (D32.cl _) (D32.cl _) (D32.c1 _) ?_; refine X2t ?_; clear HL; intro w HL; refine Xa0 ?_; clear hK K; go_wp2_with fail; refine Xf ?_; refine Xc1 ?_; refine ⟨x, up, 0, rfl, HBK _ _ HL, .inl ⟨rfl, ds, HDP.out, hlen, hl, ?_, okN_kind hok hk0⟩⟩; rw [← HUP.out, upD_upW, xkn x.nod hk0]
  · skip
    go_upto_region 2 with fail; refine X14 ?_; refine X8s ?_; refine X22 ?_; go_upto_region 3 with fail; refine Xas ?_; refine X5 ?_; refine Xc2 ?_; refine X5 ?_; refine Xat ?_; refine X3i ?_; clear HL; intro w HL; refine X5y ?_; refine X4k ?_; clear HL; intro w HL; go_wp2_with fail; refine Xf ?_; refine Xc1 ?_; exact ⟨Prv.z, D32.z, 10, rfl, HBK _ _ HL, .inr ⟨rfl, hdp⟩⟩
end
def VRd (n : Nat) (w0 : World) (root key : D32) (l : List UInt8) (e : Ending) (w' : World) : Prop := ∃ (s : Sai) (er : Int), e = .returned (.tuple #[.agg s.cells.toArray, .int .i64 er]) ∧ Below n w0 w' ∧
  ((er = 0 ∧ accP root.l key.l l = some (if s.there then some s.val.l else none) ∧ (s.there = false → s = Sai.z)) ∨ ((er == 0) = false ∧ accP root.l key.l l = none ∧ s = Sai.z))
theorem xsk {root key l : Bts} {p : Pf} (h : decP tagE.l l = some p) : accP root key l = sayP root key p := by
  unfold accP; rw [h]
section
variable {w w' : World}
theorem xih (root key : D32) (A : Option Addr) (n c : Nat) (l : List UInt8) (w : World) (h : Tx w A n c l) (hn : n ≤ 140737488351232) : Calls Tryz.prog 49 #[root.a, key.a, .slice A n c] w (VRd w.heap.size w root key l) := by
  have HT := hZ h; clear h; have HL := Loc.start w; obtain ⟨w0, rfl⟩ := eW w; go_enter Tryz.func49, Tryz.ntmps49; go_upto_region 0 with fail; refine X35 ?_; clear HL; intro g3 w HL; refine X5 ?_; refine X5r ?_; clear HL; intro g4 w HL; refine X5 ?_; refine xah xom rfl rfl HL ?_; clear HL; intro g6 w HL; refine X1c ?_; go_upto_region 1 with fail; refine Xv ?_; refine Xc3 ?_; intro K hK; refine xad cf104 rfl _ rfl ?_; refine X1z ?_; (with_reducible refine (xq8 key A n c l _ (HT.out.below HL.below) hn).mono ?_); rintro e w ⟨x, t, er, rfl, hb, hx⟩; replace HL := HL.next hb; clear hb; refine X7b ?_; clear hK K; refine xah zr34 rfl rfl HL ?_; clear HL; intro g8 w HL; refine X5 ?_; refine xah zr23 rfl rfl HL ?_; clear HL; intro g9 w HL; refine X5 ?_; refine Xat ?_; refine X3i ?_; clear HL; intro w HL; refine X5y ?_; refine X4k ?_; clear HL; intro w HL
  rcases hx with ⟨rfl, ds, hdp, hlen, hl, htop, hkind⟩ | ⟨her, hdp⟩
  · have hA : accP root.l key.l l = sayP root.l key.l (pfOf ds x.nod) := xsk hdp
    have hup : upW shaL (tb key.l) 0 (pfOf ds x.nod).sides (endT (pfOf ds x.nod).fin) = t.l := htop.symm; have hfin : (pfOf ds x.nod).fin = finN x.nod := rfl; have hsl : (pfOf ds x.nod).sides.length = x.sides.n := by show (ds.map D32.l).length = _; rw [List.length_map, hlen]
    unfold sayP at hA; rw [hup, hfin, hsl] at hA; clear hdp htop hup hfin hsl; have HA := hZ hA; clear hA; go_upto_region 2 with fail; refine Xa4 ?_; rcases hkind with hk | hk
    · skip
      have k4 : ((x.kind : Int) == 1) = true := by rw [hk]; rfl
      have hf : finN x.nod = some (x.key.l, x.val.l) := by unfold finN; rw [if_pos (show x.nod.kind = 1 from hk)]; rfl
      by_cases ht : t.l = root.l
      · have k5 : (!(t.l == root.l)) = false := by simp [ht]
        cases hun : xa1 x.key.l key.l (x.sides.n : Int) with
        | true =>
          have kun : (!(xa1 x.key.l key.l (x.sides.n : Int))) = false := by rw [hun]; rfl
          by_cases hsame : x.key.l = key.l
          · have ksame : (x.key.l == key.l) = true := by simp [hsame]
            have HACC : accP root.l key.l l = some (if true then some x.val.l else none) := by rw [HA.out, if_pos ht, hf]; simp only; rw [hun, if_pos rfl, if_pos hsame]; rfl
            go_upto_region 4 with fail; refine Xc4 ?_; refine X5 ?_; refine Xc5 ?_; refine X5 ?_; refine Xc6 ?_; refine X1c ?_; go_upto_region 5 with fail; refine Xc8 ?_; refine Xc9 ?_; refine X28 ?_; refine X8v ?_; refine Xca ?_; refine X5 ?_; refine Xcb ?_; refine Xcd ?_; refine X5 ?_; refine Xce ?_; refine X5 ?_; refine Xcf ?_; refine X5 ?_; refine Xcg ?_; refine X5p ?_; intro K hK; refine Xch ?_; refine Xci ?_; refine X5x ?_; clear hK K; intro w HL; refine xab rfl _ (xcg (b := false) _ rfl _ rfl kun) ?_; refine X2d ?_; go_upto_region 7 with fail; refine X1b ?_; refine X8v ?_; refine Xca ?_; refine X5 ?_; refine Xcb ?_; refine Xcd ?_; refine X5 ?_; refine xab rfl _ (xcn ab23 _ _ rfl x.key key rfl rfl true ksame) ?_; refine X2c ?_; go_upto_region 8 with fail; refine X8q ?_; refine xaa rfl _ (xcr fa32_2 _ rfl _ _ rfl) ?_; refine X5 ?_
            refine xaa rfl _ (xau ag23 HL _ rfl _ _ rfl _ _ _ (.tail _ (.head _)) (Prv.g_val _) (D32.cl _)) ?_; refine X5 ?_; refine xaa rfl _ (xbf bs114 _ rfl _ (by exact xr8 _)) ?_; refine Xck ?_; refine X3j ?_; clear HL; intro w HL; go_upto_region 9 with fail; refine Xv ?_; refine Xcl ?_; refine Xck ?_; refine X4k ?_; clear HL; intro w HL; go_wp2_with fail; refine Xcm ?_; exact ⟨⟨true, x.val⟩, 0, rfl, HL.below, .inl ⟨rfl, HACC, fun h => by cases h⟩⟩
          · have ksame : (x.key.l == key.l) = false := by simp [hsame]
            have HACC : accP root.l key.l l = some (if Sai.z.there then some Sai.z.val.l else none) := by rw [HA.out, if_pos ht, hf]; simp only; rw [hun, if_pos rfl, if_neg hsame]; rfl
            go_upto_region 4 with fail; refine Xc4 ?_; refine X5 ?_; refine Xc5 ?_; refine X5 ?_; refine Xc6 ?_; refine X1c ?_; go_upto_region 5 with fail; refine Xc8 ?_; refine Xc9 ?_; refine X28 ?_; refine X8v ?_; refine Xca ?_; refine X5 ?_; refine Xcb ?_; refine Xcd ?_; refine X5 ?_; refine Xce ?_; refine X5 ?_; refine Xcf ?_; refine X5 ?_; refine Xcg ?_; refine X5p ?_; intro K hK; refine Xch ?_; refine Xci ?_; refine X5x ?_; clear hK K; intro w HL; refine xab rfl _ (xcg (b := false) _ rfl _ rfl kun) ?_; refine X2d ?_; go_upto_region 7 with fail; refine X1b ?_; refine X8v ?_; refine Xca ?_; refine X5 ?_; refine Xcb ?_; refine Xcd ?_; refine X5 ?_; refine xab rfl _ (xcn ab23 _ _ rfl x.key key rfl rfl false ksame) ?_; refine X2c ?_; go_upto_region 9 with fail; refine Xv ?_; refine Xcl ?_; refine Xck ?_; refine X4k ?_; clear HL; intro w HL; go_wp2_with fail
            refine Xcm ?_; exact ⟨Sai.z, 0, rfl, HL.below, .inl ⟨rfl, HACC, fun _ => rfl⟩⟩
        | false =>
          have kun : (!(xa1 x.key.l key.l (x.sides.n : Int))) = true := by rw [hun]; rfl
          have HACC : accP root.l key.l l = none := by rw [HA.out, if_pos ht, hf]; simp only; rw [hun, if_neg (by decide)]
          go_upto_region 4 with fail; refine Xc4 ?_; refine X5 ?_; refine Xc5 ?_; refine X5 ?_; refine Xc6 ?_; refine X1c ?_; go_upto_region 5 with fail; refine Xc8 ?_; refine Xc9 ?_; refine X28 ?_; refine X8v ?_; refine Xca ?_; refine X5 ?_; refine Xcb ?_; refine Xcd ?_; refine X5 ?_; refine Xce ?_; refine X5 ?_; refine Xcf ?_; refine X5 ?_; refine Xcg ?_; refine X5p ?_; intro K hK; refine Xch ?_; refine Xci ?_; refine X5x ?_; clear hK K; intro w HL; refine xab rfl _ (xcg (b := true) _ rfl _ rfl kun) ?_; refine X2d ?_; go_upto_region 6 with fail; refine Xv ?_; refine Xcn ?_; refine Xck ?_; refine X4k ?_; clear HL; intro w HL; go_wp2_with fail; refine Xcm ?_; exact ⟨Sai.z, 11, rfl, HL.below, .inr ⟨rfl, HACC, rfl⟩⟩
      · have k5 : (!(t.l == root.l)) = true := by simp [ht]
        have HACC : accP root.l key.l l = none := by rw [HA.out, if_neg ht]
        go_upto_region 4 with fail; refine Xc4 ?_; refine X5 ?_; refine Xc5 ?_; refine X5 ?_; refine Xc6 ?_; refine X1c ?_; go_upto_region 5 with fail; refine Xco ?_; refine X2j ?_; refine no_implicit_lambda% (X2i ?_); refine X2b ?_; go_upto_region 6 with fail; refine Xv ?_; refine Xcn ?_; refine Xck ?_; refine X4k ?_; clear HL; intro w HL; go_wp2_with fail; refine Xcm ?_; exact ⟨Sai.z, 11, rfl, HL.below, .inr ⟨rfl, HACC, rfl⟩⟩
    · skip
      have k4 : ((x.kind : Int) == 1) = false := by rw [hk]; rfl
      have hf : finN x.nod = none := by unfold finN; rw [if_neg (show ¬ x.nod.kind = 1 by show ¬ x.kind = 1; omega)]
      by_cases ht : t.l = root.l
      · have k5 : (!(t.l == root.l)) = false := by simp [ht]
        have HACC : accP root.l key.l l = some (if Sai.z.there then some Sai.z.val.l else none) := by rw [HA.out, if_pos ht, hf]; rfl
        go_upto_region 4 with fail; refine Xc4 ?_; refine X5 ?_; refine Xc5 ?_; refine X5 ?_; refine Xcp ?_; refine X1c ?_; go_upto_region 5 with fail; refine Xc8 ?_; refine Xc9 ?_; refine X28 ?_; refine no_implicit_lambda% (X2i ?_); refine no_implicit_lambda% (X2i ?_); refine no_implicit_lambda% (X2e ?_); refine X3y ?_; go_upto_region 7 with fail; refine X1b ?_; refine no_implicit_lambda% (X2i ?_); refine no_implicit_lambda% (X58 ?_); go_upto_region 9 with fail; refine Xv ?_; refine Xcl ?_; refine Xck ?_; refine X4k ?_; clear HL; intro w HL; go_wp2_with fail; refine Xcm ?_; exact ⟨Sai.z, 0, rfl, HL.below, .inl ⟨rfl, HACC, fun _ => rfl⟩⟩
      · have k5 : (!(t.l == root.l)) = true := by simp [ht]
        have HACC : accP root.l key.l l = none := by rw [HA.out, if_neg ht]
        go_upto_region 4 with fail; refine Xc4 ?_; refine X5 ?_; refine Xc5 ?_; refine X5 ?_; refine Xcp ?_; refine X1c ?_; go_upto_region 5 with fail; refine Xco ?_; refine X2j ?_; refine no_implicit_lambda% (X2i ?_); refine X2b ?_; go_upto_region 6 with fail; refine Xv ?_; refine Xcn ?_; refine Xck ?_; refine X4k ?_; clear HL; intro w HL; go_wp2_with fail; refine Xcm ?_; exact ⟨Sai.z, 11, rfl, HL.below, .inr ⟨rfl, HACC, rfl⟩⟩
  · have HACC : accP root.l key.l l = none := by unfold accP; rw [hdp]
    go_upto_region 2 with fail; refine X14 ?_; refine Xa3 ?_; refine X22 ?_; go_upto_region 3 with fail; refine Xv ?_; refine Xcn ?_; refine X17 ?_; refine Xcj ?_; refine X4k ?_; clear HL; intro w HL; go_wp2_with fail; refine Xcm ?_; exact ⟨Sai.z, er, rfl, HL.below, .inr ⟨her, HACC, rfl⟩⟩
end
def saiEq (x y : Sai) : Bool := (x.there == y.there) && ((x.val.l == y.val.l) && true)
theorem eq_sai (x y : Sai) (w : World) : (Op.equalIn 10000 114 (.agg x.cells.toArray) (.agg y.cells.toArray)).run Tryz.prog w = .ok (saiEq x y) w := by
  have hF : (Tryz.prog.fieldsOf 114).toList.map fkey = [("There", 4, 0), ("Value", 23, 1)] := by kernel_rfl
  rw [run_equalIn_agg w 9999 114 _ _ (by kernel_rfl) (by kernel_rfl)]; generalize (Tryz.prog.fieldsOf 114).toList = fs at hF; refine xbg hF (by decide) 9999 _ _ _ _ _ _ (xcf sc4 _ _ _ (Sai.g_there x)) (xcf sc4 _ _ _ (Sai.g_there y)) (run_equalIn_bool w 9998 4 _ _ (by kernel_rfl)) fun fs1 h1 => ?_
  refine xbg h1 (by decide) 9999 _ _ _ _ _ _ (xb2 ag23 _ _ _ (Sai.g_val x)) (xb2 ag23 _ _ _ (Sai.g_val y)) (xf1 ab25 9997 _ _ rfl) fun fs2 h2 => ?_
  exact xd9 h2 _ _ _
theorem xq9 {w : World} {a : Act} {o : Oper} {T' : Nat} (x y : Operand) (ho : o.op = .binOp .eql 114 x y T') (p q : Sai) (ex : a.eval x = .agg p.cells.toArray) (ey : a.eval y = .agg q.cells.toArray) (b : Bool) (h : saiEq p q = b) :
    (execOp a.eval o).run Tryz.prog w = .ok (.value (.bool b)) w := by
  have hg : (eqGuard .eql 114 x y (.agg p.cells.toArray) (.agg q.cells.toArray)).run Tryz.prog w = .ok () w := run_eqGuard_agg w .eql 114 x y _ _ (by kernel_rfl); unfold execOp; simp only [ho, ex, ey, Sem.run_bind, hg, Result.andThen_ok, run_eql_struct, eq_sai, Sem.run_pure, h]
def sayEq (x y : Say) : Bool := (x.fst == y.fst) && ((x.snd == y.snd) && ((x.same == y.same) && true))
theorem eq_say (x y : Say) (w : World) : (Op.equalIn 10000 208 (.agg x.cells.toArray) (.agg y.cells.toArray)).run Tryz.prog w = .ok (sayEq x y) w := by
  have hF : (Tryz.prog.fieldsOf 208).toList.map fkey = [("one", 4, 0), ("two", 4, 1), ("same", 4, 2)] := by kernel_rfl
  rw [run_equalIn_agg w 9999 208 _ _ (by kernel_rfl) (by kernel_rfl)]; generalize (Tryz.prog.fieldsOf 208).toList = fs at hF; refine xbg hF (by decide) 9999 _ _ _ _ _ _ (xcf sc4 _ _ _ (Say.g_fst x)) (xcf sc4 _ _ _ (Say.g_fst y)) (run_equalIn_bool w 9998 4 _ _ (by kernel_rfl)) fun fs1 h1 => ?_
  refine xbg h1 (by decide) 9999 _ _ _ _ _ _ (xcf sc4 _ _ _ (Say.g_snd x)) (xcf sc4 _ _ _ (Say.g_snd y)) (run_equalIn_bool w 9998 4 _ _ (by kernel_rfl)) fun fs2 h2 => ?_
  refine xbg h2 (by decide) 9999 _ _ _ _ _ _ (xcf sc4 _ _ _ (Say.g_same x)) (xcf sc4 _ _ _ (Say.g_same y)) (run_equalIn_bool w 9998 4 _ _ (by kernel_rfl)) fun fs3 h3 => ?_
  exact xd9 h3 _ _ _
theorem xel {w : World} {a : Act} {o : Oper} {T' : Nat} (x y : Operand) (ho : o.op = .binOp .eql 208 x y T') (p q : Say) (ex : a.eval x = .agg p.cells.toArray) (ey : a.eval y = .agg q.cells.toArray) (b : Bool) (h : sayEq p q = b) :
    (execOp a.eval o).run Tryz.prog w = .ok (.value (.bool b)) w := by
  have hg : (eqGuard .eql 208 x y (.agg p.cells.toArray) (.agg q.cells.toArray)).run Tryz.prog w = .ok () w := run_eqGuard_agg w .eql 208 x y _ _ (by kernel_rfl); unfold execOp; simp only [ho, ex, ey, Sem.run_bind, hg, Result.andThen_ok, run_eql_struct, eq_say, Sem.run_pure, h]
def xl3 (x y : Brv) : Bool := ((x.kind : Int) == (y.kind : Int)) && ((x.key.l == y.key.l) && ((x.val.l == y.val.l) && ((x.dig.l == y.dig.l) && true)))
theorem eq_brv (x y : Brv) (w : World) : (Op.equalIn 10000 124 (.agg x.cells.toArray) (.agg y.cells.toArray)).run Tryz.prog w = .ok (xl3 x y) w := by
  have hF : (Tryz.prog.fieldsOf 124).toList.map fkey = [("Kind", 30, 0), ("Key", 24, 1), ("Value", 23, 33), ("Digest", 23, 65)] := by kernel_rfl
  rw [run_equalIn_agg w 9999 124 _ _ (by kernel_rfl) (by kernel_rfl)]; generalize (Tryz.prog.fieldsOf 124).toList = fs at hF; refine xbg hF (by decide) 9999 _ _ _ _ _ _ (xcf sc30 _ _ _ (Brv.g_kind x)) (xcf sc30 _ _ _ (Brv.g_kind y)) (run_equalIn_int w 9998 30 .u8 .u8 _ _ (by kernel_rfl)) fun fs1 h1 => ?_
  refine xbg h1 (by decide) 9999 _ _ _ _ _ _ (xb2 ag24 _ _ _ (Brv.g_key x)) (xb2 ag24 _ _ _ (Brv.g_key y)) (xf1 ab23 9997 _ _ rfl) fun fs2 h2 => ?_
  refine xbg h2 (by decide) 9999 _ _ _ _ _ _ (xb2 ag23 _ _ _ (Brv.g_val x)) (xb2 ag23 _ _ _ (Brv.g_val y)) (xf1 ab25 9997 _ _ rfl) fun fs3 h3 => ?_
  refine xbg h3 (by decide) 9999 _ _ _ _ _ _ (xb2 ag23 _ _ _ (Brv.g_dig x)) (xb2 ag23 _ _ _ (Brv.g_dig y)) (xf1 ab25 9997 _ _ rfl) fun fs4 h4 => ?_
  exact xd9 h4 _ _ _
theorem xko {w : World} {a : Act} {o : Oper} {T' : Nat} (x y : Operand) (ho : o.op = .binOp .eql 124 x y T') (p q : Brv) (ex : a.eval x = .agg p.cells.toArray) (ey : a.eval y = .agg q.cells.toArray) (b : Bool) (h : xl3 p q = b) :
    (execOp a.eval o).run Tryz.prog w = .ok (.value (.bool b)) w := by
  have hg : (eqGuard .eql 124 x y (.agg p.cells.toArray) (.agg q.cells.toArray)).run Tryz.prog w = .ok () w := run_eqGuard_agg w .eql 124 x y _ _ (by kernel_rfl); unfold execOp; simp only [ho, ex, ey, Sem.run_bind, hg, Result.andThen_ok, run_eql_struct, eq_brv, Sem.run_pure, h]
def xf4 (root key : D32) (v l : List UInt8) : Bool := decide (v.length ≤ 1024) && decide (accP root.l key.l l = some (some (tagV v).l))
def absB (root key : D32) (l : List UInt8) : Bool := decide (accP root.l key.l l = some none)
section
variable {w w' : World}
theorem xpn (root key : D32) (B : Option Addr) (m d : Nat) (v : List UInt8) (A : Option Addr) (n c : Nat) (l : List UInt8) (w : World) (hv : Tx w B m d v) (h : Tx w A n c l) (hn : n ≤ 140737488351232) :
    Calls Tryz.prog 50 #[root.a, key.a, .slice B m d, .slice A n c] w fun e w' => e = .returned (.bool (xf4 root key v l)) ∧ Below w.heap.size w w' := by
  have HT := hZ h; have HV := hZ hv; have hvl := hv.len; clear h hv; have HL := Loc.start w; obtain ⟨w0, rfl⟩ := eW w; by_cases hm : m ≤ 1024
  · have k1 : decide ((1024 : Int) < (m : Int)) = false := by simp; omega
    have hpr : xf4 root key v l = decide (accP root.l key.l l = some (some (tagV v).l)) := by unfold xf4; rw [hvl]; simp [hm]
    rw [hpr]; clear hpr; go_enter Tryz.func50, Tryz.ntmps50; go_upto_region 0 with fail; refine Xcr ?_; clear HL; intro g4 g5 w HL; refine X1c ?_; go_upto_region 1 with fail; refine X9k ?_; refine X91 ?_; go_upto_region 3 with fail; refine Xv ?_; refine Xae ?_; refine X6i ?_; refine X4a ?_; intro K hK; refine Xct ?_; rintro e w ⟨s, er, rfl, hb, hx⟩; replace HL := HL.next hb; clear hb; refine X5c ?_; clear hK K; refine xah xom rfl rfl HL ?_; clear HL; intro g9 w HL; refine X5 ?_; refine Xcu ?_; refine X4k ?_; clear HL; intro w HL; rcases hx with ⟨rfl, hacc, _⟩ | ⟨her, hacc, _⟩
    · have hres : decide (accP root.l key.l l = some (some (tagV v).l)) = saiEq s ⟨true, tagV v⟩ := by
        rw [hacc]; unfold saiEq
        cases s.there with
        | false => simp
        | true => by_cases e : s.val.l = (tagV v).l <;> simp [e]
      have HRES := hZ hres; clear hres hacc; go_upto_region 4 with fail; refine rB (Loc.P HL) [] [5] [0, 1, 2, 3, 4, 5, 6, 7, 8, 9] 0 ?_; refine X39 ?_; intro HL; refine xac rfl rfl HL (fun W hW => xao (b := true) _ _ rfl _ _ rfl rfl rfl) ?_; refine X3d ?_; refine xac rfl rfl HL (fun W hW => xan xoh hW _ rfl _ rfl _ _ (.head _) (Sai.len _)) ?_; refine Xb7 ?_; intro K hK; refine X5w ?_; (with_reducible refine (xhl _ B m d v (HV.out.below HL.below).rd hvl HV.out.cap HV.out.max (by omega)).mono ?_); refine X6s ?_; clear hK K; intro w HL; refine xac rfl rfl HL (fun W hW => xbf bs114 _ rfl _ (by exact xr8 _)) ?_; refine X5 ?_; refine xac rfl rfl HL (fun W hW => xq9 _ _ rfl s ⟨true, tagV v⟩ rfl rfl _ rfl) ?_; refine X3f ?_; refine X7k ?_; go_wp2_with fail; go_ret; exact ⟨by rw [HRES.out]; rfl, HL.below⟩
    · have hres : decide (accP root.l key.l l = some (some (tagV v).l)) = false := by rw [hacc]; rfl
      have HRES := hZ hres; clear hres hacc; go_upto_region 4 with fail; refine rB (Loc.P HL) [] [5] [0, 1, 2, 3, 4, 5, 6, 7, 8, 9] 0 ?_; refine X39 ?_; intro HL; refine xac rfl rfl HL (fun W hW => xao (b := false) _ _ rfl _ _ rfl rfl her) ?_; refine X3d ?_; refine X7h ?_; refine X7j ?_; refine X7n ?_; refine X7k ?_; go_wp2_with fail; go_ret; exact ⟨by rw [HRES.out]; rfl, HL.below⟩
  · have k1 : decide ((1024 : Int) < (m : Int)) = true := by simp; omega
    have hpr : xf4 root key v l = false := by unfold xf4; rw [hvl]; simp [hm]
    rw [hpr]; clear hpr; go_enter Tryz.func50, Tryz.ntmps50; go_upto_region 0 with fail; refine Xcr ?_; clear HL; intro g4 g5 w HL; refine X1c ?_; go_upto_region 1 with fail; refine X9k ?_; refine X91 ?_; go_upto_region 2 with fail; refine X1k ?_; go_wp2_with fail; go_ret; exact ⟨rfl, HL.below⟩
theorem xra (root key : D32) (A : Option Addr) (n c : Nat) (l : List UInt8) (w : World) (h : Tx w A n c l) (hn : n ≤ 140737488351232) :
    Calls Tryz.prog 174 #[root.a, key.a, .slice A n c] w fun e w' => e = .returned (.bool (absB root key l)) ∧ Below w.heap.size w w' := by
  have HT := hZ h; clear h; have HL := Loc.start w; obtain ⟨w0, rfl⟩ := eW w; go_enter Tryz.func174, Tryz.ntmps174; go_upto_region 0 with fail; refine X35 ?_; clear HL; intro g3 w HL; refine X5 ?_; refine X5r ?_; clear HL; intro g4 w HL; refine X1c ?_; go_upto_region 1 with fail; refine Xv ?_; refine Xae ?_; refine X6i ?_; refine X4a ?_; intro K hK; refine Xct ?_; rintro e w ⟨s, er, rfl, hb, hx⟩; replace HL := HL.next hb; clear hb; refine X5c ?_; clear hK K; refine xah xom rfl rfl HL ?_; clear HL; intro g7 w HL; refine X5 ?_; refine Xcu ?_; refine X4k ?_; clear HL; intro w HL; rcases hx with ⟨rfl, hacc, _⟩ | ⟨her, hacc, _⟩
  · have hres : absB root key l = !s.there := by
      unfold absB; rw [hacc]; cases s.there <;> simp
    have HRES := hZ hres; clear hres hacc; go_upto_region 2 with fail; refine Xcv ?_; refine X17 ?_; refine Xcw ?_; refine X5 ?_; refine Xcx ?_; refine X5 ?_; refine xab rfl _ (xcg _ rfl s.there rfl rfl) ?_; refine X1v ?_; go_wp2_with fail; go_ret; exact ⟨by rw [HRES.out]; rfl, HL.below⟩
  · have hres : absB root key l = false := by unfold absB; rw [hacc]; rfl
    have HRES := hZ hres; clear hres hacc; go_upto_region 2 with fail; refine Xcy ?_; refine X2g ?_; refine no_implicit_lambda% (X2e ?_); refine X1u ?_; go_wp2_with fail; go_ret; exact ⟨by rw [HRES.out]; rfl, HL.below⟩
end
section
variable {P : Program} {ops : Array Oper} {Q : Exit → Act → World → Prop} {S S' : World → Prop} {F pl : List Nat} {g : Nat}
theorem xbj (ord : List Nat) (g' : Nat) {l : List Oper} {dn : List Nat} {a : Act} {w : World} (hp : (xdw l.toArray F pl dn ord && ord.length + g' == g && ord.all (· < l.length)) = true)
    (h : wpT P l.toArray Q S F pl g' dn (pick l ord) a w) : wpT P l.toArray Q S F pl g dn [] a w := by
  intro _ _ hQ; simp only [Bool.and_eq_true, beq_iff_eq] at hp; obtain ⟨⟨h1, h2⟩, h3⟩ := hp; have h4 := h (xmd h3) (by rw [xnx]; exact h1) hQ; rw [show (pick l ord).length = ord.length by simp [pick]] at h4; simpa [h2] using h4
def wpB (P : Program) (ops : Array Oper) (Q : Exit → Act → World → Prop) (S : World → Prop) (F pl : List Nat) (g : Nat) (dn : List Nat) (a : Act) (w : World) : List (Nat × Oper) → Prop
  | [] => True
  | (i, o) :: r => (Region.wanted o (yielded ops a.tmps) = true ∧ ∀ K : Act → World → Prop, (∀ a' w', (F.contains i = false → S w') → wpT P ops Q S F pl g (i :: dn) [] a' w' → K a' w') → o.wp P a w K Q) ∧ wpB P ops Q S F pl g dn a w r
theorem wpB_at {dn : List Nat} {a : Act} {w : World} : ∀ {r : List (Nat × Oper)}, wpB P ops Q S F pl g dn a w r → ∀ x ∈ r, Region.wanted x.2 (yielded ops a.tmps) = true ∧
    ∀ K : Act → World → Prop, (∀ a' w', (F.contains x.1 = false → S w') → wpT P ops Q S F pl g (x.1 :: dn) [] a' w' → K a' w') → x.2.wp P a w K Q
  | [], _, x, hx => by simp at hx
  | (i, o) :: r, h, x, hx => by
    rcases List.mem_cons.1 hx with rfl | hx
    · exact h.1
    · exact wpB_at h.2 x hx
theorem xcl (ids : List Nat) {l : List Oper} {dn : List Nat} {a : Act} {w : World} (hp : (Region.ready .any l.toArray (listed l.toArray.size dn) == ids && !ids.isEmpty && ids.all (· < l.length)) = true)
    (h : wpB P l.toArray Q S F pl g dn a w (pick l ids)) : wpT P l.toArray Q S F pl (g + 1) dn [] a w := by
  intro _ _ hQ; simp only [Bool.and_eq_true, beq_iff_eq] at hp; obtain ⟨⟨h1, h2⟩, h3⟩ := hp; rw [show ([] : List (Nat × Oper)).length + (g + 1) = g + 1 by simp]; refine ⟨fun h0 => (by rw [h1] at h0; subst h0; simp at h2), fun j hj => ?_⟩; rw [h1] at hj; have hx : (j, l.getD j default) ∈ pick l ids := List.mem_map.2 ⟨j, hj, rfl⟩; obtain ⟨hw, hh⟩ := wpB_at h _ hx; have hi := xmd h3 _ hx; unfold wpOp; simp only at hw hi hh; simp only [hi, hw, if_true]; exact .inl (hh _ fun a' w' g1 g2 => ⟨g1, (by have h5 := g2 (fun x hx => by simp at hx) rfl hQ; simp only [qs, Nat.zero_add] at h5; exact h5)⟩)
end
section
variable {α : Type}
def xbm (d : α) (es : List α) (i : Nat) : List α := (List.range es.length).map fun k => if k < i ∨ es.length ≤ k + i then es.getD (es.length - 1 - k) d else es.getD k d
theorem xcs (d : α) (es : List α) (i : Nat) : (xbm d es i).length = es.length := by simp [xbm]
theorem xdg (d : α) (es : List α) (i k : Nat) (h : k < (xbm d es i).length) : (xbm d es i)[k] = if k < i ∨ es.length ≤ k + i then es.getD (es.length - 1 - k) d else es.getD k d := by simp [xbm]
theorem xkp (d : α) (es : List α) : xbm d es 0 = es := by
  apply List.ext_getElem (by rw [xcs]); intro k h1 h2; rw [xdg, if_neg (by omega)]; simp [List.getD, h2]
theorem xl4 (d : α) (es : List α) (i : Nat) (h : es.length ≤ 2 * i + 1) : xbm d es i = es.reverse := by
  apply List.ext_getElem (by rw [xcs, List.length_reverse]); intro k h1 h2; rw [xcs] at h1; rw [xdg, List.getElem_reverse]; by_cases hc : k < i ∨ es.length ≤ k + i
  · rw [if_pos hc]
    have h3 : es.length - 1 - k < es.length := by omega
    simp [List.getD, h3]
  · rw [if_neg hc]
    have e : es.length - 1 - k = k := by omega
    simp only [e]; simp [List.getD, h1]
theorem xkq (d : α) (es : List α) (i j : Nat) (hj : j = es.length - 1 - i) (h : i < j) (hi : i < (xbm d es i).length) (hj2 : j < (xbm d es i).length) :
    ((xbm d es i).set i (xbm d es i)[j]).set j (xbm d es i)[i] = xbm d es (i + 1) := by
  apply List.ext_getElem (by simp [xcs]); intro k h1 h2; rw [xcs] at h2; rw [List.getElem_set, List.getElem_set, xdg d es (i + 1)]; by_cases h3 : j = k
  · subst h3
    rw [if_pos rfl, xdg, if_neg (by omega), if_pos (by omega)]; congr 1; omega
  · rw [if_neg h3]
    by_cases h4 : i = k
    · subst h4
      rw [if_pos rfl, xdg, if_neg (by omega), if_pos (by omega)]; congr 1
    · rw [if_neg h4, xdg]
      by_cases h5 : k < i ∨ es.length ≤ k + i
      · rw [if_pos h5, if_pos (by omega)]
      · rw [if_neg h5, if_neg (by omega)]
end
theorem xeu {P : Program} {T : TypeId} {w : World} {a : Act} {o : Oper} (B : W1 P T) (x : Operand) (ho : o.op = .load T x) (g k t : Nat) (cs : List Value) (v : Value) (hx : a.eval x = .pointer (some ⟨g, k, none⟩)) (hb : Blk w g t cs) (hv : cs[k]? = some v) :
    (execOp a.eval o).run P w = .ok (.value v) w := by
  obtain ⟨d, hu, hd⟩ := B.u; exact xby hu hd x ho _ _ hx (by rw [hb.cell]; exact hv)
theorem one_at {cs : List Value} {k : Nat} {v : Value} (h : (cs.drop k).take 1 = [v]) : cs[k]? = some v := by
  have := congrArg (fun l => l[0]?) h; simpa [List.getElem?_take_of_lt] using this
theorem xrb {cs : List Value} {k : Nat} {v : Value} (h : k + 1 ≤ cs.length) : cs.set k v = splice cs k [v] := by
  rw [← xeo cs k v [] (by omega), xcq]
abbrev c1L (v : Value) : List Value := [v]
theorem xge (v : Value) : (c1L v).length = 1 := rfl
section
variable {w w' : World}
theorem xlh (g cap : Nat) (es : List Value) (tl : List Value) (w : World) (hb : Blk w g 25 (es.flatMap c1L ++ tl)) (hn : es.length ≤ cap) (h63 : es.length ≤ 140737488355328) (hone : ∀ v ∈ es, v.oneCell' = true) :
    Calls Tryz.prog 221 #[.slice (some ⟨g, 0, none⟩) es.length cap] w fun e w' => e = .returned (.tuple #[]) ∧ Blk w' g 25 (es.reverse.flatMap c1L ++ tl) ∧ Fr (· = g) w w' := by
  obtain ⟨n, hN⟩ : ∃ n, es.length = n := ⟨_, rfl⟩; rw [hN] at hn h63 ⊢; have HN := hZ hN; clear hN; have hf : Fr (· = g) w w := Fr.refl _ _; have HI : Hid ((n : Int) - 1 = (n : Int) - 1) := hZ rfl; obtain ⟨w0, rfl⟩ := eW w; have HL : Loc w0 (fun _ => False) [] w0 := Loc.start' w0 _ (fun k h => h.elim); go_enter Tryz.func221, Tryz.ntmps221; go_upto_region 0 with fail; refine X14 ?_; refine Xcz ?_; refine X5 ?_; refine X96 ?_; refine X1j ?_; go_wp2_with fail; clear HL
  go_loopw [2, 3] (fun x y wr => ∃ i : Nat, i ≤ n ∧ x = .int .i64 (i : Int) ∧ y = .int .i64 ((n : Int) - 1 - i) ∧ Blk wr g 25 ((xbm undef es i).flatMap c1L ++ tl) ∧ Fr (· = g) w0 wr) (fun x _ _ => (n + 1 - intOf x).toNat)
  case atStart => exact ⟨0, Nat.zero_le _, rfl, by simp, by rw [xkp]; exact hb, hf⟩
  case round =>
    clear hb hf; obtain ⟨i, hi, rfl, rfl, hb, hf⟩ := hrel; obtain ⟨w, rfl⟩ := eW wr; refine Xd0 ?_; intro HL; by_cases hlt : 2 * i + 1 < n
    · obtain ⟨j, hj⟩ : ∃ j, n - 1 - i = j := ⟨_, rfl⟩
      have ej : (n : Int) - 1 - i = (j : Int) := by omega
      rw [ej]; have k1 : decide ((i : Int) < (j : Int)) = true := by simp; omega
      have hji : i < j := by omega
      have hjn : j < n := by omega
      refine Xd1 ?_; intro HI1 HJ1; have hrl : (xbm undef es i).length = n := by rw [xcs, HN.out]
      have hst := xkq undef es i j (by rw [HN.out]; omega) hji (by omega) (by omega); have hxj : j < (xbm undef es i).length := by omega
      have hxi : i < (xbm undef es i).length := by omega
      have hil : i * 1 + 1 ≤ ((xbm undef es i).flatMap c1L ++ tl).length := by rw [List.length_append, xbx xge, hrl]; omega
      have Hj := xda xge (xbm undef es i) tl j hxj; have Hi := xda xge (xbm undef es i) tl i hxi; have HS1 := xe4 xge (xbm undef es i) tl i (xbm undef es i)[j] hxi; have HS2 := xe4 xge ((xbm undef es i).set i (xbm undef es i)[j]) tl j (xbm undef es i)[i] (by rw [List.length_set]; exact hxj); rw [hst] at HS2; have hjl : j * 1 + 1 ≤ (((xbm undef es i).set i (xbm undef es i)[j]).flatMap c1L ++ tl).length := by rw [List.length_append, xbx xge, List.length_set, hrl]; omega
      have hoj : ((xbm undef es i)[j]).oneCell' = true := by
        rw [xdg]
        split <;> exact hone _ (by rw [List.getD_eq_getElem?_getD, List.getElem?_eq_getElem (by rw [HN.out]; omega)]; exact List.getElem_mem _)
      have hoi : ((xbm undef es i)[i]).oneCell' = true := by
        rw [xdg]
        split <;> exact hone _ (by rw [List.getD_eq_getElem?_getD, List.getElem?_eq_getElem (by rw [HN.out]; omega)]; exact List.getElem_mem _)
      have Hj := one_at Hj; have Hi := one_at Hi; rw [← xrb (by omega)] at HS1 HS2; generalize (xbm undef es i)[j] = xj at *; generalize (xbm undef es i)[i] = xi at *; go_upto_region 1 with fail; refine X1b ?_; refine Xd2 ?_; refine X22 ?_; go_upto_region 3 with fail; replace hb := hb.drew; replace hf := hf.drew; refine rB (Loc.P HL) [] [7, 11, 13, 14, 15] [0, 1, 2, 3, 4, 5, 6, 8, 9, 10] 6 ?_; refine X3u ?_; intro HL; refine X38 ?_; refine X38 ?_; refine X38 ?_; refine X38 ?_; refine xac rfl rfl HL (fun W hW => xbe sl50 _ _ rfl g n cap j .i64 rfl rfl hjn) ?_; refine X6k ?_; refine Xd3 ?_; refine X5 ?_; refine Xd4 ?_; refine ⟨⟨rfl, ?_⟩, ⟨rfl, ?_⟩, trivial⟩
      · intro K hK
        refine xbs (xeu sc25 _ rfl g (j * 1) 25 _ _ rfl hb Hj) ?_; refine X3w ?_; clear hK K; refine xbj [11, 12, 13, 14, 15] 0 (by kernel_rfl) ?_; refine Xd5 ?_; intro K hK; refine xbs (xeu sc25 _ rfl g (i * 1) 25 _ _ rfl hb Hi) ?_; refine X3w ?_; clear hK K; refine Xd3 ?_; refine Xk ?_; intro K hK; refine Xd6 ?_; intro hb2; rw [HS1] at hb2; have hf2 := hf.setCell (p := ⟨g, i * 1, none⟩) (.inl rfl) xj; refine Xd7 ?_; clear hK K; intro HL2; refine X5 ?_; clear HL hb hf; have HL := HL2; have hb := hb2; have hf := hf2; clear HL2 hb2 hf2; refine Xj ?_; intro K hK; refine xbs (xbe sl50 _ _ rfl g n cap j .i64 rfl rfl hjn) ?_; refine X3x ?_; clear hK K; intro K hK; refine Xd8 ?_; intro hb2; rw [HS2] at hb2; have hf2 := hf.setCell (p := ⟨g, j * 1, none⟩) (.inl rfl) xi; refine Xd7 ?_; clear hK K; intro HL2; refine X5 ?_; clear HL hb hf; have HL := HL2; have hb := hb2
        have hf := hf2; clear HL2 hb2 hf2; refine Xc ?_; go_upto_region 2 with fail; refine X14 ?_; refine Xd9 ?_; refine X17 ?_; refine Xda ?_; refine X1j ?_; go_wp2_with fail; go_roundw
        case rel => exact ⟨i + 1, by omega, rfl, rfl, hb, hf⟩
        case measure => simp [intOf] <;> omega
      · intro K hK
        refine xbs (xeu sc25 _ rfl g (i * 1) 25 _ _ rfl hb Hi) ?_; refine X3w ?_; clear hK K; refine xbj [7, 12, 13, 14, 15] 0 (by kernel_rfl) ?_; refine Xd5 ?_; intro K hK; refine xbs (xeu sc25 _ rfl g (j * 1) 25 _ _ rfl hb Hj) ?_; refine X3w ?_; clear hK K; refine Xd3 ?_; refine Xk ?_; intro K hK; refine Xd6 ?_; intro hb2; rw [HS1] at hb2; have hf2 := hf.setCell (p := ⟨g, i * 1, none⟩) (.inl rfl) xj; refine Xd7 ?_; clear hK K; intro HL2; refine X5 ?_; clear HL hb hf; have HL := HL2; have hb := hb2; have hf := hf2; clear HL2 hb2 hf2; refine Xj ?_; intro K hK; refine xbs (xbe sl50 _ _ rfl g n cap j .i64 rfl rfl hjn) ?_; refine X3x ?_; clear hK K; intro K hK; refine Xd8 ?_; intro hb2; rw [HS2] at hb2; have hf2 := hf.setCell (p := ⟨g, j * 1, none⟩) (.inl rfl) xi; refine Xd7 ?_; clear hK K; intro HL2; refine X5 ?_; clear HL hb hf; have HL := HL2; have hb := hb2
        have hf := hf2; clear HL2 hb2 hf2; refine Xc ?_; go_upto_region 2 with fail; refine X14 ?_; refine Xd9 ?_; refine X17 ?_; refine Xda ?_; refine X1j ?_; go_wp2_with fail; go_roundw
        case rel => exact ⟨i + 1, by omega, rfl, rfl, hb, hf⟩
        case measure => simp [intOf] <;> omega
    · have k1 : decide ((i : Int) < (n : Int) - 1 - i) = false := by simp; omega
      go_upto_region 1 with fail; refine X1b ?_; refine Xd2 ?_; refine X22 ?_; go_wp2_with fail
      go_end0
      exact ⟨rfl, by rw [← xl4 undef es i (by rw [HN.out]; omega)]; exact hb, hf⟩
theorem xnk (g cap : Nat) (es : List D32) (tl : List Value) (w : World) (hb : Blk w g 23 (es.flatMap D32.c ++ tl)) (hn : es.length ≤ cap) (h63 : es.length ≤ 140737488355328) :
    Calls Tryz.prog 110 #[.slice (some ⟨g, 0, none⟩) es.length cap] w fun e w' => e = .returned (.tuple #[]) ∧ Blk w' g 23 (es.reverse.flatMap D32.c ++ tl) ∧ Fr (· = g) w w' := by
  obtain ⟨n, hN⟩ : ∃ n, es.length = n := ⟨_, rfl⟩; rw [hN] at hn h63 ⊢; have HN := hZ hN; clear hN; have hf : Fr (· = g) w w := Fr.refl _ _; have HI : Hid ((n : Int) - 1 = (n : Int) - 1) := hZ rfl; obtain ⟨w0, rfl⟩ := eW w; have HL : Loc w0 (fun _ => False) [] w0 := Loc.start' w0 _ (fun k h => h.elim); go_enter Tryz.func110, Tryz.ntmps110; go_upto_region 0 with fail; refine X14 ?_; refine X8l ?_; refine X5 ?_; refine X96 ?_; refine X1j ?_; go_wp2_with fail; clear HL
  go_loopw [2, 3] (fun x y wr => ∃ i : Nat, i ≤ n ∧ x = .int .i64 (i : Int) ∧ y = .int .i64 ((n : Int) - 1 - i) ∧ Blk wr g 23 ((xbm D32.z es i).flatMap D32.c ++ tl) ∧ Fr (· = g) w0 wr) (fun x _ _ => (n + 1 - intOf x).toNat)
  case atStart => exact ⟨0, Nat.zero_le _, rfl, by simp, by rw [xkp]; exact hb, hf⟩
  case round =>
    clear hb hf; obtain ⟨i, hi, rfl, rfl, hb, hf⟩ := hrel; obtain ⟨w, rfl⟩ := eW wr; refine Xd0 ?_; intro HL; by_cases hlt : 2 * i + 1 < n
    · obtain ⟨j, hj⟩ : ∃ j, n - 1 - i = j := ⟨_, rfl⟩
      have ej : (n : Int) - 1 - i = (j : Int) := by omega
      rw [ej]; have k1 : decide ((i : Int) < (j : Int)) = true := by simp; omega
      have hji : i < j := by omega
      have hjn : j < n := by omega
      refine Xd1 ?_; intro HI1 HJ1; have hrl : (xbm D32.z es i).length = n := by rw [xcs, HN.out]
      have hst := xkq D32.z es i j (by rw [HN.out]; omega) hji (by omega) (by omega); have hxj : j < (xbm D32.z es i).length := by omega
      have hxi : i < (xbm D32.z es i).length := by omega
      have hil : i * 32 + 32 ≤ ((xbm D32.z es i).flatMap D32.c ++ tl).length := by rw [List.length_append, xbx D32.cl, hrl]; omega
      have Hj := xda D32.cl (xbm D32.z es i) tl j hxj; have Hi := xda D32.cl (xbm D32.z es i) tl i hxi; have HS1 := xe4 D32.cl (xbm D32.z es i) tl i (xbm D32.z es i)[j] hxi; have HS2 := xe4 D32.cl ((xbm D32.z es i).set i (xbm D32.z es i)[j]) tl j (xbm D32.z es i)[i] (by rw [List.length_set]; exact hxj); rw [hst] at HS2; have hjl : j * 32 + 32 ≤ (((xbm D32.z es i).set i (xbm D32.z es i)[j]).flatMap D32.c ++ tl).length := by rw [List.length_append, xbx D32.cl, List.length_set, hrl]; omega
      generalize (xbm D32.z es i)[j] = xj at *; generalize (xbm D32.z es i)[i] = xi at *; go_upto_region 1 with fail; refine X1b ?_; refine Xd2 ?_; refine X22 ?_; go_upto_region 3 with fail; replace hb := hb.drew; replace hf := hf.drew; refine rB (Loc.P HL) [] [7, 11, 13, 14, 15] [0, 1, 2, 3, 4, 5, 6, 8, 9, 10] 6 ?_; refine X3u ?_; intro HL; refine X38 ?_; refine X38 ?_; refine X38 ?_; refine X38 ?_; refine xac rfl rfl HL (fun W hW => xbe sl29 _ _ rfl g n cap j .i64 rfl rfl hjn) ?_; refine X6k ?_; refine Xdb ?_; refine X5 ?_; refine Xd4 ?_; refine ⟨⟨rfl, ?_⟩, ⟨rfl, ?_⟩, trivial⟩
      · intro K hK
        refine xbs (xcb ag23 _ rfl g (j * 32) 23 _ _ rfl hb Hj (D32.cl _)) ?_; refine X3w ?_; clear hK K; refine xbj [11, 12, 13, 14, 15] 0 (by kernel_rfl) ?_; refine Xd5 ?_; intro K hK; refine xbs (xcb ag23 _ rfl g (i * 32) 23 _ _ rfl hb Hi (D32.cl _)) ?_; refine X3w ?_; clear hK K; refine Xdb ?_; refine Xdc ?_; intro K hK; intro w2 hb2 hg2 _; rw [HS1] at hb2; have hf2 := hf.grown hg2 (fun k hk => .inl (by cases hk; rfl)); refine Xd7 ?_; clear hK K; intro HL2; refine X5 ?_; clear HL hb hf; have HL := HL2; have hb := hb2; have hf := hf2; clear HL2 hb2 hf2; refine Xj ?_; intro K hK; refine xbs (xbe sl29 _ _ rfl g n cap j .i64 rfl rfl hjn) ?_; refine X3x ?_; clear hK K; intro K hK; refine xav ag23.i _ _ rfl g (j * 32) 23 _ _ rfl rfl hb (D32.cl _) hjl (D32.c1 _) ?_; intro w2 hb2 hg2 _; rw [HS2] at hb2
        have hf2 := hf.grown hg2 (fun k hk => .inl (by cases hk; rfl)); refine Xd7 ?_; clear hK K; intro HL2; refine X5 ?_; clear HL hb hf; have HL := HL2; have hb := hb2; have hf := hf2; clear HL2 hb2 hf2; refine Xc ?_; go_upto_region 2 with fail; refine X14 ?_; refine Xd9 ?_; refine X17 ?_; refine Xda ?_; refine X1j ?_; go_wp2_with fail; go_roundw
        case rel => exact ⟨i + 1, by omega, rfl, rfl, hb, hf⟩
        case measure => simp [intOf] <;> omega
      · intro K hK
        refine xbs (xcb ag23 _ rfl g (i * 32) 23 _ _ rfl hb Hi (D32.cl _)) ?_; refine X3w ?_; clear hK K; refine xbj [7, 12, 13, 14, 15] 0 (by kernel_rfl) ?_; refine Xd5 ?_; intro K hK; refine xbs (xcb ag23 _ rfl g (j * 32) 23 _ _ rfl hb Hj (D32.cl _)) ?_; refine X3w ?_; clear hK K; refine Xdb ?_; refine Xdc ?_; intro K hK; intro w2 hb2 hg2 _; rw [HS1] at hb2; have hf2 := hf.grown hg2 (fun k hk => .inl (by cases hk; rfl)); refine Xd7 ?_; clear hK K; intro HL2; refine X5 ?_; clear HL hb hf; have HL := HL2; have hb := hb2; have hf := hf2; clear HL2 hb2 hf2; refine Xj ?_; intro K hK; refine xbs (xbe sl29 _ _ rfl g n cap j .i64 rfl rfl hjn) ?_; refine X3x ?_; clear hK K; intro K hK; refine xav ag23.i _ _ rfl g (j * 32) 23 _ _ rfl rfl hb (D32.cl _) hjl (D32.c1 _) ?_; intro w2 hb2 hg2 _; rw [HS2] at hb2
        have hf2 := hf.grown hg2 (fun k hk => .inl (by cases hk; rfl)); refine Xd7 ?_; clear hK K; intro HL2; refine X5 ?_; clear HL hb hf; have HL := HL2; have hb := hb2; have hf := hf2; clear HL2 hb2 hf2; refine Xc ?_; go_upto_region 2 with fail; refine X14 ?_; refine Xd9 ?_; refine X17 ?_; refine Xda ?_; refine X1j ?_; go_wp2_with fail; go_roundw
        case rel => exact ⟨i + 1, by omega, rfl, rfl, hb, hf⟩
        case measure => simp [intOf] <;> omega
    · have k1 : decide ((i : Int) < (n : Int) - 1 - i) = false := by simp; omega
      go_upto_region 1 with fail; refine X1b ?_; refine Xd2 ?_; refine X22 ?_; go_wp2_with fail
      go_end0
      exact ⟨rfl, by rw [← xl4 D32.z es i (by rw [HN.out]; omega)]; exact hb, hf⟩
end
section
variable {P : Program} {T E : TypeId} {w0 w1 w w' : World} {D : Nat → Prop} {L L0 L1 G : List (Nat × Nat × List Value)} {o : Oper} {a : Act} {K : Act → World → Prop} {Q : Exit → Act → World → Prop}
theorem xf5 {zs : List Value} (Z : ZA P T zs) (ho : o.op = .alloc T) (H : Loc w0 D L w) (h : ∀ g w', Loc w0 D ((g, T, zs) :: L) w' → K (a.put o.dst (.pointer (some ⟨g, 0, none⟩))) w') : o.wp P a w K Q := by
  obtain ⟨zv, hz, hc⟩ := Z.i
  have e : (execOp a.eval o).run P w = .ok (.value (.pointer (some ⟨w.heap.size, 0, none⟩))) (w.alloc (.cells zs.toArray T)) := by
    cases hq : P.info? T with
    | none => simp [hq] at hz
    | some j =>
      have hj : j.zero = some zv := by simpa [hq] using hz
      unfold execOp; simp [ho, Instr.alloc, zeroValue, typeInfo, hq, hj, newVar, newRow, hc]
  unfold Oper.wp; rw [e]; exact h _ _ (H.new T zs)
theorem Loc.swap {x y : Nat × Nat × List Value} (H : Loc w0 D (x :: y :: L) w) : Loc w0 D (y :: x :: L) w := H.perm (List.Perm.swap x y L)
theorem Gw.rdm {z n : Nat} {v : Sv} {xs : List Value} (h : Gw E z G v n xs) (hm : ∀ x ∈ G, x ∈ L) (H : Loc w0 D L w) : Rd w v.A xs := by
  obtain ⟨hl, ⟨rfl, rfl, rfl⟩ | ⟨g, cap, tl, rfl, rfl, h1, h2, h3⟩⟩ := h
  · have : xs = [] := List.eq_nil_of_length_eq_zero (by rw [hl]; omega)
    subst this; exact Rd.nil _ _
  · exact Rd.of_blk0 (H.blk (hm (g, E, xs ++ tl) (by simp)))
theorem Gw.txm {v : Sv} {l : List UInt8} (h : Gw 5 1 G v l.length (bvs l)) (hm : ∀ x ∈ G, x ∈ L) (H : Loc w0 D L w) : Tx w v.A v.n v.c l := ⟨h.len.symm, h.cap.1, h.cap.2, h.rdm hm H, fun _ _ h => h⟩
inductive Gws : List (Nat × Nat × List Value) → List Sv → List (List UInt8) → Prop
  | nil : Gws [] [] []
  | snoc {Gs G : List (Nat × Nat × List Value)} {vs : List Sv} {ls : List (List UInt8)} {sv : Sv} {l : List UInt8} (hs : Gws Gs vs ls) (h : Gw 5 1 G sv l.length (bvs l)) : Gws (Gs ++ G) (vs ++ [sv]) (ls ++ [l])
theorem Gws.len {Gs : List (Nat × Nat × List Value)} {vs : List Sv} {ls : List (List UInt8)} (h : Gws Gs vs ls) : vs.length = ls.length := by
  induction h with
  | nil => rfl
  | snoc hs h ih => simp [ih]
structure AllTx (N : Nat) (w : World) (vs : List Sv) (ls : List (List UInt8)) : Prop where
  len : vs.length = ls.length
  tx : ∀ (i : Nat) (v : Sv) (l : List UInt8), vs[i]? = some v → ls[i]? = some l → Tx w v.A v.n v.c l ∧ ∀ ad, v.A = some ad → N ≤ ad.block
theorem AllTx.rev {N : Nat} {vs : List Sv} {ls : List (List UInt8)} (h : AllTx N w vs ls) : AllTx N w vs.reverse ls.reverse := by
  refine ⟨by simp [h.len], fun i v l hv hl => ?_⟩; have h1 := (List.getElem?_eq_some_iff.1 hv).1; rw [List.length_reverse] at h1; rw [List.getElem?_reverse h1] at hv; rw [List.getElem?_reverse (by rw [← h.len]; exact h1), ← h.len] at hl; exact h.tx _ v l hv hl
theorem Gw.fars {z n N : Nat} {v : Sv} {xs : List Value} (h : Gw E z G v n xs) (hN : ∀ x ∈ G, N ≤ x.1) : ∀ ad, v.A = some ad → N ≤ ad.block := by
  intro ad e; obtain ⟨hl, ⟨rfl, rfl, rfl⟩ | ⟨g, cap, tl, rfl, rfl, h1, h2, h3⟩⟩ := h
  · cases e
  · cases e
    exact hN _ (List.mem_singleton.2 rfl)
theorem Gws.all {N : Nat} {Gs : List (Nat × Nat × List Value)} {vs : List Sv} {ls : List (List UInt8)} (h : Gws Gs vs ls) (hm : ∀ x ∈ Gs, x ∈ L) (hN : ∀ x ∈ Gs, N ≤ x.1) (H : Loc w0 D L w) : AllTx N w vs ls := by
  induction h with
  | nil => exact ⟨rfl, fun i v l hv => by cases hv⟩
  | @snoc Gs G vs ls sv l0 hs h ih =>
    have h0 := ih (fun x hx => hm x (List.mem_append.2 (.inl hx))) (fun x hx => hN x (List.mem_append.2 (.inl hx))); refine ⟨by simp [h0.len], fun i v l hv hl => ?_⟩; have hle := h0.len; by_cases hi : i < vs.length
    · rw [List.getElem?_append_left hi] at hv
      rw [List.getElem?_append_left (by rw [← hle]; exact hi)] at hl; exact h0.tx i v l hv hl
    · rw [List.getElem?_append_right (by omega)] at hv
      rw [List.getElem?_append_right (by omega), ← hle] at hl; have h1 := List.mem_singleton.1 (List.mem_of_getElem? hv); have h2 := List.mem_singleton.1 (List.mem_of_getElem? hl); subst h1 h2; exact ⟨h.txm (fun x hx => hm x (List.mem_append.2 (.inr hx))) H, h.fars (fun x hx => hN x (List.mem_append.2 (.inr hx)))⟩
theorem Rd.keep0 {A : Option Addr} {cs : List Value} (h : Rd w1 A cs) (H : Loc w1 D L w) (hD : ∀ ad, A = some ad → ad.block < w1.heap.size → D ad.block) : Rd w A cs := by
  intro hn; obtain ⟨ad, e, hc⟩ := h hn; refine H.rd (fun ad' e' => ?_) h hn; rw [e] at e'; cases e'; refine hD ad e ?_; have := World.block_lt_of_cell? _ _ (hc 0 _ (List.getElem?_eq_getElem hn)); rwa [show (ad.add 0).block = ad.block by unfold Addr.add; split <;> rfl] at this
theorem Tx.keep {N n c : Nat} {A : Option Addr} {l : List UInt8} (h : Tx w1 A n c l) (H : Loc w1 D L w) (hN : ∀ ad, A = some ad → N ≤ ad.block) (hD : ∀ k, N ≤ k → k < w1.heap.size → D k) : Tx w A n c l :=
  ⟨h.len, h.cap, h.max, Rd.keep0 h.rd H (fun ad e h4 => hD _ (hN ad e) h4), h.far⟩
structure TxR (N : Nat) (w : World) (sv : Sv) (ls : List (List UInt8)) : Prop where
  ex : ∃ vs, Rd w sv.A (vs.map Sv.v) ∧ AllTx N w vs ls
  far : ∀ ad, sv.A = some ad → N ≤ ad.block
  len : ls.length = sv.n
  cap : sv.n ≤ sv.c
theorem TxR.below {N : Nat} {sv : Sv} {ls : List (List UInt8)} (h : TxR N w sv ls) (hb : Below w.heap.size w w') : TxR N w' sv ls := by
  obtain ⟨xs, h1, h2⟩ := h.ex; exact ⟨⟨xs, h1.below hb, h2.len, fun i v l hv hl => ⟨Tx.below (h2.tx i v l hv hl).1 hb, (h2.tx i v l hv hl).2⟩⟩, h.far, h.len, h.cap⟩
theorem TxR.mono {N M : Nat} {sv : Sv} {ls : List (List UInt8)} (h : TxR N w sv ls) (hm : M ≤ N) : TxR M w sv ls := by
  obtain ⟨xs, h1, h2⟩ := h.ex; exact ⟨⟨xs, h1, h2.len, fun i v l hv hl => ⟨(h2.tx i v l hv hl).1, fun ad e => Nat.le_trans hm ((h2.tx i v l hv hl).2 ad e)⟩⟩, fun ad e => Nat.le_trans hm (h.far ad e), h.len, h.cap⟩
theorem TxR.at_ {N : Nat} {sv : Sv} {ls : List (List UInt8)} (h : TxR N w sv ls) (i : Nat) (hi : i < ls.length) : ∃ ad s, sv.A = some ad ∧ N ≤ ad.block ∧ Rd w (some (ad.add (i * 1))) [Sv.v s] ∧ Tx w s.A s.n s.c (ls.getD i []) ∧ ∀ ad, s.A = some ad → N ≤ ad.block := by
  obtain ⟨vs, h1, h2⟩ := h.ex; have hx : i < vs.length := by rw [h2.len]; exact hi
  obtain ⟨ad, e, hc⟩ := h1 (by rw [List.length_map]; omega); have e2 : ls[i]? = some (ls.getD i []) := by simp [List.getD, hi]
  obtain ⟨h4, h5⟩ := h2.tx i vs[i] _ (List.getElem?_eq_getElem hx) e2; refine ⟨ad, vs[i], e, h.far ad e, ?_, h4, h5⟩; have h6 := h1.cut i 1; rw [e] at h6
  have e3 : ((vs.map Sv.v).drop i).take 1 = [Sv.v vs[i]] := by
    rw [List.drop_eq_getElem_cons (by rw [List.length_map]; exact hx), List.getElem_map]; rfl
  rw [e3] at h6; rw [Nat.mul_one]; exact h6
theorem xcx (B : W1 P T) (x : Operand) (ho : o.op = .load T x) (ad : Addr) (v : Value) (hx : a.eval x = .pointer (some ad)) (hr : Rd w (some ad) [v]) : (execOp a.eval o).run P w = .ok (.value v) w := by
  have e : ad.add 0 = ad := by unfold Addr.add; split <;> simp_all
  exact xex B x ho ad 0 [v] v (by rw [e]; exact hx) hr rfl
end
theorem sum_sv (sv : Sv) (l : List UInt8) (w : World) (h : Tx w sv.A sv.n sv.c l) (hn : sv.n ≤ 140737488351232) : Calls Tryz.prog 117 #[sv.v] w fun e w' => e = .returned (shaD l).a ∧ Below w.heap.size w w' := sum_d _ _ _ _ l h hn
theorem fm_c1 (vs : List Value) : vs.flatMap c1L = vs := by
  induction vs with
  | nil => rfl
  | cons v vs ih => rw [List.flatMap_cons, ih]; rfl
def txD (key : D32) (ds : List D32) (e : Bts) (j : Nat) : List Bts := xb0 shaL (tb key.l) j ((ds.drop j).map D32.l) e
theorem xsl (key : D32) (ds : List D32) (e : Bts) : txD key ds e ds.length = [e] := by unfold txD; rw [List.drop_length]; rfl
theorem xsm (key : D32) (ds : List D32) (e : Bts) (j : Nat) : (txD key ds e j).length = ds.length - j + 1 := by unfold txD; rw [xgn, List.length_map, List.length_drop]
theorem txD_succ (key : D32) (ds : List D32) (e : Bts) (i : Nat) (hi : i < ds.length) (tx : Bts) (rest : List Bts) (h : txD key ds e (i + 1) = tx :: rest) : txD key ds e i = xc9 (tb key.l i) (shaL tx) ds[i].l :: tx :: rest := by
  unfold txD at *; rw [List.drop_eq_getElem_cons hi, List.map_cons, xb0, h]; rfl
theorem xii {b : Bool} {h s : Bts} (hh : h.length = 32) (hs : s.length = 32) : (xc9 b h s).length = 65 := by
  unfold xc9; cases b <;> simp [hh, hs]
theorem xij (g cap : Nat) (es : List Value) (n : Nat) (hnn : es.length = n) (tl : List Value) (w : World) (hb : Blk w g 25 (es.flatMap c1L ++ tl)) (hn : es.length ≤ cap) (h63 : es.length ≤ 140737488355328) (hone : ∀ v ∈ es, v.oneCell' = true) :
    Calls Tryz.prog 221 #[Sv.v ⟨some ⟨g, 0, none⟩, n, cap⟩] w fun e w' => e = .returned (.tuple #[]) ∧ Blk w' g 25 (es.reverse.flatMap c1L ++ tl) ∧ Fr (· = g) w w' := by subst hnn; exact xlh g cap es tl w hb hn h63 hone
def TxO (N : Nat) (w0 : World) (key : D32) (l : List UInt8) (e : Ending) (w' : World) : Prop := ∃ (sv : Sv) (er : Int), e = .returned (.tuple #[sv.v, .int .i64 er]) ∧ Below N w0 w' ∧
  ((er = 0 ∧ ∃ p, decP tagE.l l = some p ∧ TxR N w' sv (xb4 key.l p)) ∨ ((er == 0) = false ∧ decP tagE.l l = none))
section
variable {w w' : World}
theorem xud (key : D32) (A : Option Addr) (n c : Nat) (l : List UInt8) (w : World) (h : Tx w A n c l) (hn : n ≤ 140737488351232) : Calls Tryz.prog 176 #[key.a, .slice A n c] w (TxO w.heap.size w key l) := by
  have HT := hZ h; clear h; have HL := Loc.start w; obtain ⟨w0, rfl⟩ := eW w; go_enter Tryz.func176, Tryz.ntmps176; go_upto_region 0 with fail; refine X90 ?_; clear HL; intro g2 w HL; refine X1j ?_; go_upto_region 1 with fail; refine X1y ?_; intro K hK; refine xad cf7 rfl _ rfl ?_; refine Xby ?_; rintro e w ⟨x, er, rfl, hb, hx⟩; refine Xbn ?_; intro H1 hfr; replace HL := HL.after hb; clear hb; obtain ⟨w1, rfl⟩ := eW w; refine Xaq ?_; intro HBK HOD; generalize Rest w1 _ = D1 at HL HBK hfr HOD; clear H1; refine X5c ?_; clear hK K; refine xah zr34 rfl rfl HL ?_; clear HL; intro g6 w HL; refine X5 ?_; refine Xbo ?_; refine X4k ?_; clear HL; intro w HL; rcases hx with ⟨rfl, ds, hs, hfar, hdp, hok, hk, hl⟩ | ⟨rfl, hdp⟩
  · have hd := fun ad e h2 => hfr _ (hfar ad e) h2
    have HS := hZ hs; have HDP := hZ hdp; have HLEN := hZ hs.len; have hk0 : x.nod.kind ≠ 2 := hk; have hte := xkn x.nod hk0; have htl := xke x.nod; clear hs hdp hfr hfar; have hdl0 : ds.length ≤ 256 := by have := HLEN.out; omega
    have HI : Hid ((x.sides.n : Int) - 1 = (ds.length : Int) - 1) := hZ (by rw [HLEN.out]); go_upto_region 2 with fail; refine Xa4 ?_; go_upto_region 4 with fail; refine X8q ?_; refine X8r ?_; refine X57 ?_; intro K hK; refine xad cf102 rfl _ rfl ?_; refine X1z ?_; (with_reducible refine (xid x.nod hok).mono ?_); rintro e w ⟨v, rfl, ho, hb⟩; obtain ⟨G8, s8, rfl, hG8, HL1⟩ := HL.took hb ho; clear HL hb ho; have HL := HL1; clear HL1; simp only [qm, qn] at HL; refine X6o ?_; clear hK K; rw [hte] at hG8 htl; go_upto_region 5 with fail; refine X1y ?_; intro K hK; refine xds sl50 el25 1 _ rfl HL [Sv.v s8] (by simp [Sv.v, Value.oneCell']) rfl (by omega) (by omega) (by simp [Act.eval]) ?_; clear HL; intro g28 w HL; refine Xal ?_; clear hK K
    have HL0 := HL.perm (L' := (g6, 34, x.cells) :: (g2, 24, key.c) :: ([(g28, 25, [Sv.v s8] ++ [])] ++ (G8 ++ []))) (by
      simpa using (((List.Perm.swap _ _ _).cons _).trans (List.Perm.swap _ _ _)))
    clear HL; have HL := HL0; clear HL0; go_upto_region 6 with fail; refine X8n ?_; refine X5 ?_; refine X96 ?_; refine X1c ?_; generalize hE : endT (finN x.nod) = e0 at hG8 htl; have HE := hZ hE; clear hE hte; go_wp2_with fail
    go_loopw [8, 10, 11] (fun t u z wr => ∃ (j : Nat) (tx : List UInt8) (rest : List (List UInt8)) (G8 Gs : List (Nat × Nat × List Value)) (s8 : Sv) (vs : List Sv) (Go : List (Nat × Nat × List Value)) (so : Sv), j ≤ ds.length ∧ t = Sv.v s8 ∧ u = Sv.v so ∧ z = .int .i64 ((j : Int) - 1) ∧
      txD key ds e0 j = tx :: rest ∧ tx.length ≤ 65 ∧ Gw 5 1 G8 s8 tx.length (bvs tx) ∧ (∀ x ∈ G8, x ∈ Gs) ∧ Gws Gs vs (txD key ds e0 j).reverse ∧ Gw 25 1 Go so vs.length (vs.map Sv.v) ∧ Loc w1 D1 ((g6, 34, x.cells) :: (g2, 24, key.c) :: (Go ++ (Gs ++ []))) wr) (fun _ _ z _ => (intOf z + 1).toNat)
    case atStart =>
      refine ⟨ds.length, e0, [], G8, [] ++ G8, s8, [] ++ [s8], [(g28, 25, [Sv.v s8] ++ [])], ⟨some ⟨g28, 0, none⟩, 1, 1⟩, Nat.le_refl _, rfl, rfl, rfl, xsl _ _ _, htl, hG8, fun x hx => by simpa using hx, ?_, ?_, HL⟩
      · rw [xsl]; exact Gws.snoc Gws.nil hG8
      · exact ⟨rfl, .inr ⟨g28, 1, [], rfl, rfl, Nat.le_refl _, by unfold maxLen; omega, rfl⟩⟩
    case round =>
      clear HL hG8 htl; obtain ⟨j, tx, rest, G8, Gs, s8, vs, Go, so, hj, rfl, rfl, rfl, htx, htl, hG8, hGm, hGs, hGo, HL⟩ := hrel; obtain ⟨w, rfl⟩ := eW wr; have hvl : vs.length = ds.length - j + 1 := by rw [hGs.len, List.length_reverse, xsm]
      have hdl : ds.length ≤ 256 := by have := HLEN.out; omega
      cases j with
      | zero =>
        go_upto_region 7 with fail; refine X97 ?_; refine X22 ?_; obtain ⟨_, ⟨_, _, h0⟩ | ⟨gO, cap, tl, rfl, rfl, hc1, hc2, hc3⟩⟩ := hGo
        · omega
        have HB := HL.blk (.tail _ (.tail _ (.head _))); rw [← fm_c1 (vs.map Sv.v)] at HB; have hvm : (vs.map Sv.v).length = vs.length := List.length_map _; go_upto_region 14 with fail; refine X1y ?_; intro K hK; refine xad cf221 rfl _ rfl ?_; refine X1z ?_; (with_reducible refine (xij gO cap (vs.map Sv.v) vs.length hvm tl _ HB (by rw [hvm]; exact hc1) (by omega) (by simp [Sv.v, Value.oneCell'])).mono ?_); rintro e w ⟨rfl, hb, hf⟩; rw [fm_c1] at hb; replace HL := HL.putF (i := 2) rfl hb hf; clear hb hf HB; simp only [qg, qh, qm, qn] at HL; refine X23 ?_; clear hK K; go_upto_region 15 with fail; refine X3s ?_; go_wp2_with fail; go_ret2; refine ⟨_, 0, rfl, HBK _ _ HL, .inl ⟨rfl, _, HDP.out, ?_⟩⟩
        have hnew : ∀ x ∈ (gO, 25, (vs.map Sv.v).reverse ++ tl) :: (Gs ++ []), w0.heap.size ≤ x.1 := by
          intro x hx; rcases Nat.lt_or_ge x.1 w0.heap.size with h1 | h1
          · exact absurd (HOD _ h1) (HL.own x (.tail _ (.tail _ hx))).1
          · exact h1
        have htt : xb4 key.l (pfOf ds x.nod) = txD key ds e0 0 := by unfold xb4 txD pfOf; rw [← HE.out]; rfl
        have hall := (hGs.all (N := w0.heap.size) (L := (g6, 34, x.cells) :: (g2, 24, key.c) :: (gO, 25, (vs.map Sv.v).reverse ++ tl) :: (Gs ++ [])) (fun x hx => by simp [hx]) (fun x hx => hnew x (by simp [hx])) HL).rev; rw [List.reverse_reverse, ← htt] at hall; refine ⟨⟨vs.reverse, ?_, hall⟩, ?_, ?_, hc1⟩
        · rw [List.map_reverse]; exact Rd.of_blk0 (HL.blk (.tail _ (.tail _ (.head _))))
        · intro ad e
          cases e; exact hnew _ (.head _)
        · rw [htt, xsm, hvl]
      | succ i =>
        have e1 : (((i + 1 : Nat) : Int) - 1) = (i : Int) := by omega
        rw [e1]; clear e1; have HJ : Hid ((i : Int) - 1 = (i : Int) - 1) := hZ rfl; have k7 : decide ((0 : Int) ≤ (i : Int)) = true := by simp
        obtain ⟨ad, hA, _⟩ := HS.out.at_ i hj; have HSV : Hid (x.sides.v = .slice (some ad) x.sides.n x.sides.c) := hZ (by unfold Sv.v; rw [hA]); have hin : i < x.sides.n := by have := HLEN.out; omega
        have hdsi : ∀ (L : List (Nat × Nat × List Value)) (W : World), Loc w1 D1 L W → Rd W (some (ad.add (i * 32))) ds[i].c := by
          intro L W hW; obtain ⟨ad', e', h'⟩ := (HS.out.keep hW hd).at_ i hj; rw [hA] at e'; cases e'; exact h'
        have C := fun u => hZ (xf0 u key i (by have := HLEN.out; omega))
        have HA := hZ hA; have htx' := txD_succ key ds e0 i hj tx rest htx; clear hA; go_upto_region 7 with fail; refine X14 ?_; refine xaa rfl _ (xc3 _ _ rfl _ _ rfl rfl k7) ?_; refine X22 ?_; generalize hLB : (g6, 34, x.cells) :: (g2, 24, key.c) :: (Go ++ (Gs ++ [])) = LB at HL; have hm6 : (g6, 34, x.cells) ∈ LB := by rw [← hLB]; exact .head _
        have hm8 : ∀ y ∈ G8, y ∈ LB := by intro y hy; rw [← hLB]; have := hGm y hy; simp [this]
        have hs8 : s8.n ≤ 140737488351232 := by rw [hG8.len]; omega
        go_upto_region 9 with fail
        go_cut [12, 13] from 37 to 43 (fun p q wx => ∃ ga gb, p = .pointer (some ⟨ga, 0, none⟩) ∧ q = .pointer (some ⟨gb, 0, none⟩) ∧ Loc w1 D1 ((gb, 23, ds[i].c) :: (ga, 23, (shaD tx).c) :: LB) wx)
        case first =>
          have HX := HL.drew; refine rB (Loc.P HL) [] [1, 7, 8, 9, 10] [0, 2, 3, 4, 5, 6] 5 ?_; refine X39 ?_; intro HL; refine X9e ?_; refine X5 ?_; refine xac rfl rfl HL (fun W hW => xag sc29 hW _ rfl _ _ rfl _ _ _ hm6 (Prv.g_sides _)) ?_; refine X3d ?_; refine xac rfl rfl HL (fun W hW => xaz sl29 (.tmp 40) _ rfl ad x.sides.n x.sides.c i .i64 HSV.out rfl hin) ?_; refine X5 ?_; refine xac rfl rfl HL (fun W hW => xay ag23 _ rfl _ ds[i].c rfl (hdsi _ _ hW) (by omega) (D32.cl _)) ?_; refine X5 ?_; refine xcl [1, 7, 8] (by kernel_rfl) ?_; refine X2 ?_; refine ⟨⟨rfl, ?_⟩, ⟨rfl, ?_⟩, ⟨rfl, ?_⟩, trivial⟩
          · intro K hK
            refine X8i ?_; refine X1z ?_; refine Xdd ?_; refine Xde ?_; intro w hb HL HX; clear hb; refine X65 ?_; clear hK K; refine xcl [7, 8] (by kernel_rfl) ?_; refine X2 ?_; refine ⟨⟨rfl, ?_⟩, ⟨rfl, ?_⟩, trivial⟩
            · intro K hK
              refine Xdf ?_; clear HX HL; intro g12 w HX; have HL : Loc w1 D1 LB w := by first | exact HX.drop _ (sB _ _) | exact HX.drop _ ((sB _ _).trans (sB _ _))
              refine X3w ?_; clear hK K; refine xbj [8, 9, 10] 0 (by kernel_rfl) ?_; refine Xd5 ?_; intro K hK; refine Xdf ?_; clear HX HL; intro g13 w HX; have HL : Loc w1 D1 LB w := by first | exact HX.drop _ (sB _ _) | exact HX.drop _ ((sB _ _).trans (sB _ _))
              refine X3x ?_; clear hK K; intro K hK; refine Xdg ?_; refine Xdj ?_; clear HX HL hK K; intro w HX HL K hK; refine Xdk ?_; refine Xdi ?_; clear HX HL; intro w HX HL; refine Xbk ?_; clear hK K; go_wp2_with fail; go_meet
              case rel => exact ⟨g12, g13, rfl, rfl, by first | exact HX | exact HX.swap⟩
            · intro K hK
              refine Xdf ?_; clear HX HL; intro g13 w HX; have HL : Loc w1 D1 LB w := by first | exact HX.drop _ (sB _ _) | exact HX.drop _ ((sB _ _).trans (sB _ _))
              refine X3w ?_; clear hK K; refine xbj [7, 9, 10] 0 (by kernel_rfl) ?_; refine Xd5 ?_; intro K hK; refine Xdf ?_; clear HX HL; intro g12 w HX; have HL : Loc w1 D1 LB w := by first | exact HX.drop _ (sB _ _) | exact HX.drop _ ((sB _ _).trans (sB _ _))
              refine X3x ?_; clear hK K; intro K hK; refine Xdl ?_; refine Xdj ?_; clear HX HL hK K; intro w HX HL K hK; refine Xdm ?_; refine Xdi ?_; clear HX HL; intro w HX HL; refine Xbk ?_; clear hK K; go_wp2_with fail; go_meet
              case rel => exact ⟨g12, g13, rfl, rfl, by first | exact HX | exact HX.swap⟩
          · intro K hK
            refine Xdf ?_; clear HX HL; intro g12 w HX; have HL : Loc w1 D1 LB w := by first | exact HX.drop _ (sB _ _) | exact HX.drop _ ((sB _ _).trans (sB _ _))
            refine X3w ?_; clear hK K; refine xcl [1, 8] (by kernel_rfl) ?_; refine X2 ?_; refine ⟨⟨rfl, ?_⟩, ⟨rfl, ?_⟩, trivial⟩
            · intro K hK
              refine X8i ?_; refine X1z ?_; refine Xdd ?_; refine Xde ?_; intro w hb HL HX; clear hb; refine X65 ?_; clear hK K; refine xbj [8, 9, 10] 0 (by kernel_rfl) ?_; refine Xd5 ?_; intro K hK; refine Xdf ?_; clear HX HL; intro g13 w HX; have HL : Loc w1 D1 LB w := by first | exact HX.drop _ (sB _ _) | exact HX.drop _ ((sB _ _).trans (sB _ _))
              refine X3x ?_; clear hK K; intro K hK; refine Xdg ?_; refine Xdj ?_; clear HX HL hK K; intro w HX HL K hK; refine Xdk ?_; refine Xdi ?_; clear HX HL; intro w HX HL; refine Xbk ?_; clear hK K; go_wp2_with fail; go_meet
              case rel => exact ⟨g12, g13, rfl, rfl, by first | exact HX | exact HX.swap⟩
            · intro K hK
              refine Xdf ?_; clear HX HL; intro g13 w HX; have HL : Loc w1 D1 LB w := by first | exact HX.drop _ (sB _ _) | exact HX.drop _ ((sB _ _).trans (sB _ _))
              refine X3w ?_; clear hK K; refine xbj [1, 9, 10] 0 (by kernel_rfl) ?_; refine Xd5 ?_; intro K hK; refine X8i ?_; refine X1z ?_; refine Xdd ?_; refine Xde ?_; intro w hb HL HX; clear hb; refine X6m ?_; clear hK K; intro K hK; refine Xdg ?_; refine Xdj ?_; clear HX HL hK K; intro w HX HL K hK; refine Xdk ?_; refine Xdi ?_; clear HX HL; intro w HX HL; refine Xbk ?_; clear hK K; go_wp2_with fail; go_meet
              case rel => exact ⟨g12, g13, rfl, rfl, by first | exact HX | exact HX.swap⟩
          · intro K hK
            refine Xdf ?_; clear HX HL; intro g13 w HX; have HL : Loc w1 D1 LB w := by first | exact HX.drop _ (sB _ _) | exact HX.drop _ ((sB _ _).trans (sB _ _))
            refine X3w ?_; clear hK K; refine xcl [1, 7] (by kernel_rfl) ?_; refine X2 ?_; refine ⟨⟨rfl, ?_⟩, ⟨rfl, ?_⟩, trivial⟩
            · intro K hK
              refine X8i ?_; refine X1z ?_; refine Xdd ?_; refine Xde ?_; intro w hb HL HX; clear hb; refine X65 ?_; clear hK K; refine xbj [7, 9, 10] 0 (by kernel_rfl) ?_; refine Xd5 ?_; intro K hK; refine Xdf ?_; clear HX HL; intro g12 w HX; have HL : Loc w1 D1 LB w := by first | exact HX.drop _ (sB _ _) | exact HX.drop _ ((sB _ _).trans (sB _ _))
              refine X3x ?_; clear hK K; intro K hK; refine Xdl ?_; refine Xdj ?_; clear HX HL hK K; intro w HX HL K hK; refine Xdm ?_; refine Xdi ?_; clear HX HL; intro w HX HL; refine Xbk ?_; clear hK K; go_wp2_with fail; go_meet
              case rel => exact ⟨g12, g13, rfl, rfl, by first | exact HX | exact HX.swap⟩
            · intro K hK
              refine Xdf ?_; clear HX HL; intro g12 w HX; have HL : Loc w1 D1 LB w := by first | exact HX.drop _ (sB _ _) | exact HX.drop _ ((sB _ _).trans (sB _ _))
              refine X3w ?_; clear hK K; refine xbj [1, 9, 10] 0 (by kernel_rfl) ?_; refine Xd5 ?_; intro K hK; refine X8i ?_; refine X1z ?_; refine Xdd ?_; refine Xde ?_; intro w hb HL HX; clear hb; refine X6m ?_; clear hK K; intro K hK; refine Xdl ?_; refine Xdj ?_; clear HX HL hK K; intro w HX HL K hK; refine Xdm ?_; refine Xdi ?_; clear HX HL; intro w HX HL; refine Xbk ?_; clear hK K; go_wp2_with fail; go_meet
              case rel => exact ⟨g12, g13, rfl, rfl, by first | exact HX | exact HX.swap⟩
        case rest =>
          clear HL; obtain ⟨ga, gb, rfl, rfl, HL⟩ := hcut; obtain ⟨w, rfl⟩ := eW wc; subst hLB
          cases hbit : tb key.l i with
          | false =>
            have C1 := fun u => (C u).out
            rw [hbit] at C1 htx'; have C2 := fun u => hZ (C1 u)
            clear C1 C hbit; go_upto_region 10 with fail; refine X9d ?_; refine X4a ?_; intro K hK; refine X5k ?_; (with_reducible refine ((C2 _).out).mono ?_); refine X5x ?_; clear hK K; intro w HL; refine X9s ?_; refine X22 ?_; go_upto_region 12 with fail; refine Xv ?_; refine Xae ?_; refine X98 ?_; refine X57 ?_; intro K hK; refine xad cf162 rfl _ rfl ?_; refine X1z ?_; (with_reducible refine (xfz _ (shaD tx) ds[i]).mono ?_); rintro e w ⟨v, rfl, ho, hb⟩; obtain ⟨G9, s9, rfl, hG9, HL1⟩ := HL.took hb ho; clear HL hb ho; have HL := HL1; clear HL1; simp only [qm, qo, qn] at HL; refine X2q ?_; clear hK K; have hG9' : Gw 5 1 G9 s9 (xc9 false (shaL tx) ds[i].l).length (bvs (xc9 false (shaL tx) ds[i].l)) := hG9; go_upto_region 13 with fail; refine X2n ?_; intro K hK; refine Xdn ?_; clear HL; intro g55 w HL; refine Xa7 ?_; clear hK K; intro K hK; refine Xdo ?_
            clear HL hGo; intro so' Go' w hGo HL; simp only [qm, qn] at HL; refine Xal ?_; clear hK K; go_upto_region 8 with fail; refine X14 ?_; refine X9h ?_; refine X1c ?_; go_wp2_with fail; go_roundw
            case rel =>
              refine ⟨i, xc9 false (shaL tx) ds[i].l, tx :: rest, G9, Gs ++ G9, s9, vs ++ [s9], Go', so', by omega, rfl, rfl, rfl, htx', by rw [xii (xbb _) ds[i].h]; omega, hG9', fun y hy => List.mem_append.2 (.inr hy), ?_, ?_, ?_⟩
              · rw [htx', List.reverse_cons, ← htx]; exact Gws.snoc hGs hG9'
              · rw [List.length_append, List.map_append]; exact hGo
              · have HL2 := HL.drop ((g6, 34, x.cells) :: (g2, 24, key.c) :: (Go' ++ (Gs ++ (G9 ++ [])))) ((sB _ _).trans ((sB _ _).trans (sB _ _)))
                simpa only [List.append_assoc] using HL2
            case measure => simp [intOf] <;> omega
          | true =>
            have C1 := fun u => (C u).out
            rw [hbit] at C1 htx'; have C2 := fun u => hZ (C1 u)
            clear C1 C hbit; go_upto_region 10 with fail; refine X9d ?_; refine X4a ?_; intro K hK; refine X5k ?_; (with_reducible refine ((C2 _).out).mono ?_); refine X5x ?_; clear hK K; intro w HL; refine X9l ?_; refine X22 ?_; go_upto_region 11 with fail; refine Xac ?_; refine Xad ?_; refine X56 ?_; refine X3i ?_; clear HL; intro w HL; refine X5y ?_; refine X3j ?_; clear HL; intro w HL; go_upto_region 12 with fail; refine Xv ?_; refine Xae ?_; refine X98 ?_; refine X57 ?_; intro K hK; refine xad cf162 rfl _ rfl ?_; refine X1z ?_; (with_reducible refine (xfz _ ds[i] (shaD tx)).mono ?_); rintro e w ⟨v, rfl, ho, hb⟩; obtain ⟨G9, s9, rfl, hG9, HL1⟩ := HL.took hb ho; clear HL hb ho; have HL := HL1; clear HL1; simp only [qm, qo, qn] at HL; refine X2q ?_; clear hK K; have hG9' : Gw 5 1 G9 s9 (xc9 true (shaL tx) ds[i].l).length (bvs (xc9 true (shaL tx) ds[i].l)) := hG9
            go_upto_region 13 with fail; refine X2n ?_; intro K hK; refine Xdn ?_; clear HL; intro g55 w HL; refine Xa7 ?_; clear hK K; intro K hK; refine Xdo ?_; clear HL hGo; intro so' Go' w hGo HL; simp only [qm, qn] at HL; refine Xal ?_; clear hK K; go_upto_region 8 with fail; refine X14 ?_; refine X9h ?_; refine X1c ?_; go_wp2_with fail; go_roundw
            case rel =>
              refine ⟨i, xc9 true (shaL tx) ds[i].l, tx :: rest, G9, Gs ++ G9, s9, vs ++ [s9], Go', so', by omega, rfl, rfl, rfl, htx', by rw [xii (xbb _) ds[i].h]; omega, hG9', fun y hy => List.mem_append.2 (.inr hy), ?_, ?_, ?_⟩
              · rw [htx', List.reverse_cons, ← htx]; exact Gws.snoc hGs hG9'
              · rw [List.length_append, List.map_append]; exact hGo
              · have HL2 := HL.drop ((g6, 34, x.cells) :: (g2, 24, key.c) :: (Go' ++ (Gs ++ (G9 ++ [])))) ((sB _ _).trans ((sB _ _).trans (sB _ _)))
                simpa only [List.append_assoc] using HL2
            case measure => simp [intOf] <;> omega
  · skip
    go_upto_region 2 with fail; refine X14 ?_; refine X8s ?_; refine X22 ?_; go_upto_region 3 with fail; refine X32 ?_; go_wp2_with fail; go_ret2; exact ⟨Sv.nil, 10, rfl, HBK _ _ HL, .inr ⟨rfl, hdp⟩⟩
end
end Go.Proofs.YtkjjdgnkelchfaaGreat
