import Derived.Test.YtkjjdgnkelchfaaGreatPCU18
set_option linter.unusedSimpArgs false
set_option linter.unusedVariables false
set_option maxRecDepth 100000
set_option maxHeartbeats 16000000
namespace Go.Proofs.YtkjjdgnkelchfaaGreat
open Go Go.RowKit
def recB (body : List UInt8) (sum : D32) : List UInt8 := be 4 body.length ++ (body ++ sum.l)
theorem xfx (body : List UInt8) (sum : D32) : (recB body sum).length = body.length + 36 := by
  unfold recB; rw [List.length_append, List.length_append, xaq, sum.h]; omega
theorem Rd.keepN {w2 w : World} {D2 : Nat → Prop} {L : List (Nat × Nat × List Value)} {A : Option Addr} {cs : List Value} {N : Nat} (h : Rd w2 A cs) (H : Loc w2 D2 L w) (hfr : ∀ k, N ≤ k → k < w2.heap.size → D2 k) (hN : ∀ ad, A = some ad → N ≤ ad.block) : Rd w A cs :=
  h.keepE H fun hne ad e => by
    obtain ⟨ad', e', hc⟩ := h (List.length_pos_iff.2 hne); have e2 := e; rw [e] at e'; cases e'; have := World.block_lt_of_cell? _ _ (hc 0 _ (List.getElem?_eq_getElem (List.length_pos_iff.2 hne))); exact hfr _ (hN ad e2) (by rwa [show (ad.add 0).block = ad.block by unfold Addr.add; split <;> rfl] at this)
theorem Tx.keepN {w2 w : World} {D2 : Nat → Prop} {L : List (Nat × Nat × List Value)} {A : Option Addr} {n c : Nat} {l : List UInt8} {N : Nat} (h : Tx w2 A n c l) (H : Loc w2 D2 L w) (hfr : ∀ k, N ≤ k → k < w2.heap.size → D2 k) (hN : ∀ ad, A = some ad → N ≤ ad.block) : Tx w A n c l :=
  ⟨h.len, h.cap, h.max, h.rd.keepN H hfr hN, fun _ _ h => h⟩
theorem Loc.backB {w1 w w2 u : World} {D : Nat → Prop} {L L' : List (Nat × Nat × List Value)} (H : Loc w1 D L w) (hb : Below w.heap.size w w2) (H2 : Loc w2 (Rest w2 L) L' u) : Loc w1 D [] u := by
  have H3 := H.next hb; refine ⟨H3.fr.trans ⟨H2.fr.os, H2.fr.tape, H2.fr.output, H2.fr.size, fun k hk hn => H2.fr.block k hk fun n => n ⟨Nat.lt_of_lt_of_le (H.lt (Classical.not_not.1 hn)) hb.size, fun x hx e => (H.own x hx).1 (by rw [e]; exact Classical.not_not.1 hn)⟩⟩, fun x hx => by simp at hx, List.Pairwise.nil, H.old⟩
theorem xll {w1 w : World} {D : Nat → Prop} {L : List (Nat × Nat × List Value)} {i g : Nat} {cs : List Value} {a r : List UInt8} (H : Loc w1 D L w) (hL : L[i]? = some (g, 195, cs)) (hR : RdL w1 D cs (some (a ++ r))) (hl : (a ++ r).length ≤ 140737488351232) (k : Int) (hk : k = (a.length : Int)) :
    Calls Tryz.prog 53 #[.pointer (some ⟨g, 0, none⟩), .int .i64 k] w fun e w' => ∃ G sv cs', e = .returned (Sv.v sv) ∧ Gw 5 1 G sv a.length (bvs a) ∧ RdL w1 D cs' (some r) ∧ Loc w1 D ((L.set i (g, 195, cs')) ++ (G ++ [])) w' := by
  have hla : a.length ≤ 140737488351232 := by rw [List.length_append] at hl; omega
  have h := xlx H hL hR k (by omega) (fun q e => by cases e; omega); rw [xea a r k hk, xeb a r k hk] at h; exact h
def NextY (w : World) (rs : List RE) (sum : D32) (e : Ending) (w' : World) : Prop :=
  ∃ (x : Rcd) (es : List RE), e = .returned (.tuple #[.agg x.cells.toArray, .bool true]) ∧ RawT (fun k => k < w.heap.size) w' x.ws.A x.ws.n x.ws.c es ∧ es.map cnR = rs.map cnE ∧ Tx w' x.body.A x.body.n x.body.c (xa5 rs) ∧ Tx w' x.sum.A x.sum.n x.sum.c sum.l ∧ x.size = (((xa5 rs).length + 36 : Nat) : Int) ∧ Below w.heap.size w w' ∧ (∀ ad, x.body.A = some ad → w.heap.size ≤ ad.block) ∧ ∀ ad, x.sum.A = some ad → w.heap.size ≤ ad.block
theorem BodyO.run {w : World} (s : Sv) (rs : List RE) (h : Tx w s.A s.n s.c (xa5 rs)) (hn : rs.length ≤ 11) (hk : ∀ e ∈ rs, e.k.length = 32) (hv : ∀ e ∈ rs, e.r.gone = false → e.v.length ≤ 1024) : Calls Tryz.prog 180 #[s.v] w (BodyO w rs) := body_ok s.A s.n s.c rs h hn hk hv
theorem next_ok {w : World} (A : Option Addr) (n c : Nat) (tail : List UInt8) (rs : List RE) (sum : D32) (h : Tx w A n c (recB (xa5 rs) sum ++ tail)) (hn : rs.length ≤ 11) (hbig : n ≤ 140737488351232) (hk : ∀ e ∈ rs, e.k.length = 32) (hv : ∀ e ∈ rs, e.r.gone = false → e.v.length ≤ 1024) :
    Calls Tryz.prog 118 #[.slice A n c] w (NextY w rs sum) := by
  have htl := xhl rs.length rs hk hv rs.length (Nat.le_refl _); obtain ⟨body, hbody⟩ : ∃ body, xa5 rs = body := ⟨_, rfl⟩; have hbl : body.length ≤ 12000 := by rw [← hbody]; unfold xa5; omega
  have CB : ∀ (u : World) (s : Sv), Tx u s.A s.n s.c body → Hid (Calls Tryz.prog 180 #[s.v] u (BodyO u rs)) := fun u s hu => hZ (BodyO.run s rs (by rw [hbody]; exact hu) hn hk hv)
  unfold NextY; rw [hbody] at h ⊢; clear htl hbody hk hv; obtain ⟨m, hm⟩ : ∃ m, min n 70036 = m := ⟨_, rfl⟩; have HM := hZ hm; have hlen := h.len; rw [List.length_append, xfx] at hlen; have HNC := hZ h.cap; have hmb : body.length + 36 ≤ m := by omega
  have htk : (recB body sum ++ tail).take m = be 4 body.length ++ (body ++ (sum.l ++ tail.take (m - (body.length + 36)))) := by
    rw [List.take_append, List.take_of_length_le (by rw [xfx]; exact hmb), xfx]; unfold recB; simp only [qo]
  have HLR : Hid (Rd w A (bvs (be 4 body.length ++ (body ++ (sum.l ++ tail.take (m - (body.length + 36))))))) := hZ (by
    rw [← htk]; have := h.rd.take m; unfold bvs at this ⊢; rw [List.map_take]
    exact this)
  have HLL : Hid ((be 4 body.length ++ (body ++ (sum.l ++ tail.take (m - (body.length + 36))))).length = m) := hZ (by
    rw [← htk, List.length_take, List.length_append, xfx]; omega)
  have HBL := hZ hbl; generalize tail.take (m - (body.length + 36)) = tl at *; have HB0 : Hid ((be 4 body.length ++ (body ++ (sum.l ++ tl))).length ≤ 140737488351232) := hZ (by rw [HLL.out]; omega); have HB1 : Hid ((body ++ (sum.l ++ tl)).length ≤ 140737488351232) := hZ (by have := HB0.out; rw [List.length_append] at this; omega); have HB2 : Hid ((sum.l ++ tl).length ≤ 140737488351232) := hZ (by have := HB1.out; rw [List.length_append] at this; omega); have k5 : decide ((body.length : Int) ≤ 70000) = true := by simp; omega
  have HI : Hid ((body.length : Int) + 36 = ((body.length + 36 : Nat) : Int)) := hZ (by omega); clear h hm hlen htk hmb; have HL := Loc.start w; obtain ⟨w0, rfl⟩ := eW w
  go_enter_defers Tryz.func118, Tryz.ntmps118
  go_upto_region 0 with fail; refine Xs ?_; refine xai zr213 rfl rfl HL ?_; clear HL; intro g2 w HL; refine X5 ?_; refine xai zr4 rfl rfl HL ?_; clear HL; intro g3 w HL; refine X21 ?_; go_upto_region 1 with fail; refine Xs ?_; refine Xe9 ?_; refine X4z ?_; intro K hK; refine Xea ?_; refine hK _ _ ?_; clear hK K; refine X16 ?_; go_upto_region 2 with fail; refine X18 ?_; refine Xeb ?_; refine X5 ?_; refine xaa rfl _ (xge _ _ rfl n 70036 rfl rfl m HM.out) ?_; refine X5 ?_; refine xaa rfl _ (xaw sl25 _ _ rfl A n c m .i64 rfl rfl (by have := HNC.out; have := HM.out; omega)) ?_; refine X4z ?_; intro K hK; refine Xec ?_; (with_reducible refine (xi1 A m c _ _ (HL.rdO HLR.out) HLL.out (by have := HM.out; omega)).mono ?_); rintro e w ⟨gr, A1, c1, rfl, M⟩; obtain ⟨H1, HL1, hR⟩ := HL.reader M; clear HL M; have HL := HL1; clear HL1
  obtain ⟨w1, rfl⟩ := eW w; refine Xee ?_; intro HBK HOD; have hszA := H1.fr.size; generalize Rest w1 _ = D1 at HL hR HBK HOD; generalize hcs : [Value.bool true, Value.bool false, Value.slice A1 _ c1] = cs0 at HL hR; clear H1 hcs; refine X2n ?_; clear hK K; go_upto_region 3 with fail; refine X1x ?_; intro K hK; refine xac cf178 rfl _ rfl ?_; refine X1y ?_; (with_reducible refine (xrb (i := 0) HL rfl body.length hR HB0.out (by have := HBL.out; omega)).mono ?_); rintro e w ⟨rfl, cs1, hR1, HL1⟩; clear HL hR; have HL := HL1; clear HL1; simp only [qg, qh] at HL; refine X2n ?_; clear hK K; go_upto_region 4 with fail; refine Xeg ?_; intro K hK; refine Xeh ?_; rintro e w ⟨rfl, rfl⟩; refine X5i ?_; clear hK K; refine Xek ?_; refine Xel ?_; refine X7b ?_; refine Xem ?_; intro K hK; rintro e w ⟨rfl, rfl⟩; refine X22 ?_; clear hK K
  have HS32 : Hid ((32 : Int) = (sum.l.length : Int)) := hZ (by rw [sum.h]; rfl); go_upto_region 5 with fail; refine X2k ?_; intro K hK; refine Xen ?_; (with_reducible refine (xll (i := 0) HL rfl hR1 HB1.out ((body.length : Nat) : Int) rfl).mono ?_); rintro e w ⟨G1, s1, cs2, rfl, hG1, hR2, HX2⟩; clear HL hR1; have HL := HX2; clear HX2; simp only [qg, qh, qm, qo, qn] at HL; refine X20 ?_; clear hK K; refine X42 ?_; intro K hK; refine Xen ?_; (with_reducible refine (xll (i := 0) HL rfl hR2 HB2.out 32 HS32.out).mono ?_); rintro e w ⟨G2, s2, cs3, rfl, hG2, hR3, HX2⟩; clear HL hR2; have HL := HX2; clear HX2; simp only [qg, qh, qm, qo, qn] at HL; refine X5i ?_; clear hK K; refine Xeo ?_; refine X5 ?_; refine Xep ?_; refine X2q ?_; clear HL; intro w HL; refine Xt ?_; refine xaa rfl _ (xaf xl5 _ rfl _ rfl) ?_; refine X5 ?_
  refine xa1 sc25 rfl _ _ rfl HL 2 g2 2 213 _ (⟨Sv.nil, s1, s2, 0⟩ : Rcd).cells s2.v rfl rfl rfl rfl (by rw [Rcd.len]; decide) rfl ?_; refine X2u ?_; clear HL; intro w HL; go_upto_region 6 with fail; refine Xeg ?_; intro K hK; (with_reducible refine (xnk (i := 0) HL rfl hR3).mono ?_); rintro e w ⟨rfl, rfl⟩; refine X5i ?_; clear hK K; refine Xek ?_; refine Xem ?_; intro K hK; rintro e w ⟨rfl, rfl⟩; refine X22 ?_; clear hK K; have hN1 : ∀ x ∈ G1 ++ G2, w0.heap.size ≤ x.1 := fun x hx => Nat.le_of_not_lt fun h2 => (HL.own x (by rcases List.mem_append.1 hx with h3 | h3 <;> simp [h3])).1 (HOD _ h2)
  have hN2 := hG1.fars (N := w0.heap.size) (fun x hx => hN1 x (by simp [hx])); have hN3 := hG2.fars (N := w0.heap.size) (fun x hx => hN1 x (by simp [hx])); clear hN1; have HTX := hZ (hG1.txm (fun x hx => by simp [hx]) HL); clear hR3; go_upto_region 7 with fail; refine Xs ?_; refine Xeo ?_; refine X5 ?_; refine xaa rfl _ (xah sc25 HL _ rfl _ _ rfl _ _ _ (.tail _ (.tail _ (.head _))) (Rcd.g_body _)) ?_; refine X4z ?_; intro K hK; refine xac cf180 rfl _ rfl ?_; refine X1y ?_; (with_reducible refine ((CB _ _ HTX.out).out).mono ?_); rintro e w ⟨so, es, rfl, hRW, hES, hb, hsA, hsE⟩; have HBK2 := fun (L : List (Nat × Nat × List Value)) (u : World) (h : Loc w _ L u) => HBK _ _ (HL.backB hb h)
  have hfr := fun (k : Nat) h1 h2 => HL.fresh (w1 := w) (k := k) h1 h2
  have hszB := HL.fr.size; replace HL := HL.after hb; clear hb HTX; obtain ⟨w2, rfl⟩ := eW w; generalize Rest w2 _ = D2 at HL HBK2 hfr; refine X20 ?_; clear hK K; refine X14 ?_; refine xaa rfl _ (xay _ _ rfl _ _ _ rfl rfl HI.out (by have := HBL.out; omega)) ?_; refine X5 ?_; refine xaa rfl _ (xaf xqm _ rfl _ rfl) ?_; refine X5 ?_; refine xa1 sc73 rfl _ _ rfl HL 2 g2 0 213 _ (⟨so, s1, s2, 0⟩ : Rcd).cells so.v rfl rfl rfl rfl (by rw [Rcd.len]; decide) rfl ?_; refine X2q ?_; clear HL; intro w HL; refine Xt ?_; refine xaa rfl _ (xaf xqn _ rfl _ rfl) ?_; refine X5 ?_; refine xa1 sc3 rfl _ _ rfl HL 2 g2 3 213 _ (⟨so, s1, s2, ((body.length + 36 : Nat) : Int)⟩ : Rcd).cells (.int .i64 ((body.length + 36 : Nat) : Int)) rfl rfl rfl rfl (by rw [Rcd.len]; decide) rfl ?_; refine X2u ?_; clear HL; intro w HL; go_upto_region 8 with fail
  refine Xs ?_; refine xaa rfl _ (xb5 xjz HL _ rfl _ rfl _ _ (.tail _ (.tail _ (.head _))) (Rcd.len _)) ?_; refine X5 ?_; refine xbn xjz rfl _ _ rfl HL 2 g2 213 _ (⟨so, s1, s2, ((body.length + 36 : Nat) : Int)⟩ : Rcd).cells rfl rfl rfl (Rcd.len _) (Rcd.len _) (Rcd.one _) ?_; refine X2q ?_; clear HL; intro w HL; refine Xt ?_; refine xa1 sc4 rfl _ _ rfl HL 1 g3 0 4 _ [.bool true] (.bool true) rfl rfl rfl rfl (by simp) rfl ?_; refine X2u ?_; clear HL; intro w HL; go_wp2_with fail; refine Xa ?_; refine Xei ?_; refine (xp5 _ _ _).mono ?_; rintro e u' w' ⟨rfl, rfl, rfl⟩
  refine ⟨_, xid rfl xjz sc4 _ g2 g3 213 4 _ _ rfl (HL.blk (.tail _ (.tail _ (.head _)))) (Rcd.len _) rfl (HL.blk (.tail _ (.head _))), ⟨so, s1, s2, ((body.length + 36 : Nat) : Int)⟩, es, rfl, ⟨?_, hRW.len, hRW.cap, fun e he => ?_, fun e he => ?_, fun e he hne ad ea hlt => ?_⟩, hES, ?_, ?_, rfl, HBK2 _ _ HL, hN2, hN3⟩
  · exact hRW.rd.keepN HL hfr hsA
  · exact (hRW.kt e he).keepN HL hfr (hsE e he).2
  · exact (hRW.vt e he).keepN HL hfr (hsE e he).1
  · refine hRW.dv e he hne ad ea ?_
    have h1 := HL.fr.size; have h2 := (hsE e he).1 ad ea; omega
  · exact hG1.txm (fun x hx => by simp [hx]) HL
  · have := hG2.txm (fun x hx => by simp [hx]) HL
    exact this
def Torn (l : List UInt8) : Prop := l.length < 4 ∨ ∃ x r, l = be 4 x ++ r ∧ 2 ≤ x ∧ x ≤ 70000 ∧ l.length < x + 36
theorem torn_yes {w : World} (A : Option Addr) (n c : Nat) (l : List UInt8) (h : Tx w A n c l) (ht : Torn l) (hbig : n ≤ 140737488351232) : Calls Tryz.prog 119 #[.slice A n c] w fun e w' => e = .returned (.bool true) ∧ Below w.heap.size w w' := by
  have hlen := h.len; rcases ht with ht | ⟨x, r, rfl, hx2, hx7, hlt⟩
  · have k2 : decide ((n : Int) < 4) = true := by simp; omega
    clear h; have HL := Loc.start w; obtain ⟨w0, rfl⟩ := eW w; go_enter Tryz.func119, Tryz.ntmps119; go_upto_region 0 with fail; refine X1j ?_; go_upto_region 1 with fail; refine X11 ?_; refine Xeb ?_; refine X5 ?_; refine xaa rfl _ (xbm (b := true) _ _ rfl _ _ rfl rfl k2) ?_; refine X21 ?_; go_upto_region 2 with fail; refine X1j ?_; go_wp2_with fail; go_ret; exact ⟨rfl, HL.below⟩
  · rw [List.length_append, xaq] at hlen hlt
    have k2 : decide ((n : Int) < 4) = false := by simp; omega
    have HC := hZ h.cap
    have HLR : Hid (Rd w A (bvs (be 4 x ++ []))) := hZ (by
      have := h.rd.take 4; rw [xb2, List.take_left' (by rw [xae, xaq])] at this
      rw [List.append_nil]; exact this)
    have HLL : Hid ((be 4 x ++ []).length = 4) := hZ (by rw [List.append_nil, xaq]); have HB0 : Hid ((be 4 x ++ ([] : List UInt8)).length ≤ 140737488351232) := hZ (by rw [HLL.out]; omega); have HX : Hid (x < 4294967296) := hZ (by omega); have k12 : decide ((x : Int) ≥ 2) = true := by simp; omega
    have k15 : decide ((x : Int) ≤ 70000) = true := by simp; omega
    have HI : Hid ((x : Int) + 36 = ((x + 36 : Nat) : Int)) := hZ (by omega); have k22 : decide ((n : Int) < ((x + 36 : Nat) : Int)) = true := by simp; omega
    have HN : Hid (4 ≤ n) := hZ (by omega); clear h hlen; have HL := Loc.start w; obtain ⟨w0, rfl⟩ := eW w; go_enter Tryz.func119, Tryz.ntmps119; go_upto_region 0 with fail; refine X1j ?_; go_upto_region 1 with fail; refine X11 ?_; refine Xeb ?_; refine X5 ?_; refine xaa rfl _ (xbm (b := false) _ _ rfl _ _ rfl rfl k2) ?_; refine X21 ?_; go_upto_region 3 with fail; refine X11 ?_; refine xaa rfl _ (xaw sl25 _ _ rfl A n c 4 .i64 rfl rfl (by have := HC.out; have := HN.out; omega)) ?_; refine X4z ?_; intro K hK; refine Xec ?_; (with_reducible refine (xi1 A 4 c _ _ (HL.rdO HLR.out) HLL.out (by omega)).mono ?_); rintro e w ⟨gr, A1, c1, rfl, M⟩; obtain ⟨H1, HL1, hR⟩ := HL.reader M; clear HL M; have HL := HL1; clear HL1; obtain ⟨w1, rfl⟩ := eW w; refine Xed ?_; intro HBK; generalize Rest w1 _ = D1 at HL hR HBK
    generalize hcs : [Value.bool true, Value.bool false, Value.slice A1 _ c1] = cs0 at HL hR; clear H1 hcs; refine X20 ?_; clear hK K; refine X4z ?_; intro K hK; refine xac cf178 rfl _ rfl ?_; refine X1y ?_; (with_reducible refine (xrb (i := 0) HL rfl x hR HB0.out HX.out).mono ?_); rintro e w ⟨rfl, cs1, hR1, HL1⟩; clear HL hR; have HL := HL1; clear HL1; simp only [qg, qh] at HL; refine X2n ?_; clear hK K; go_upto_region 4 with fail; refine X11 ?_; refine xaa rfl _ (xfr (b := true) _ _ rfl _ _ rfl rfl k12) ?_; refine X26 ?_; refine xad rfl _ (xcq (b := true) _ _ rfl _ _ rfl rfl k15) ?_; refine X27 ?_; refine xad rfl _ (xav Tryz.underlying25 _ rfl ⟨A, n, c⟩ n rfl rfl) ?_; refine X5 ?_; refine X1m ?_; refine xad rfl _ (xay _ _ rfl _ _ _ rfl rfl HI.out (by have := HX.out; omega)) ?_; refine X5 ?_
    refine xad rfl _ (xbm (b := true) _ _ rfl _ _ rfl rfl k22) ?_; refine X1u ?_; go_wp2_with fail; go_ret; exact ⟨rfl, HBK _ _ HL⟩
structure xkb (rs : List RE) : Prop where
  n : rs.length ≤ 8
  k : ∀ e ∈ rs, e.k.length = 32
  v : ∀ e ∈ rs, e.r.gone = false → e.v.length ≤ 1024
abbrev Hs := List (List RE × Tre)
def recO (x : List RE × Tre) : List UInt8 := recB (xa5 x.1) (sumD (xa5 x.1) x.2.dg)
def dskB (h : Hs) : List UInt8 := (h.map recO).flatten
def trH (h : Hs) (i : Nat) : Tre := if i = 0 then .nil else ((h[i - 1]?).map Prod.snd).getD .nil
structure HsOk (h : Hs) : Prop where
  step : ∀ (i : Nat) (hi : i < h.length), xkb h[i].1 ∧ SpA (trH h i) (h[i].1.map toE) h[i].2
theorem xkc {h : Hs} {i : Nat} (hi : i < h.length) : trH h (i + 1) = h[i].2 := by
  unfold trH; rw [if_neg (Nat.succ_ne_zero i), Nat.add_sub_cancel, List.getElem?_eq_getElem hi]; rfl
theorem xot {h : Hs} {i m : Nat} (hi : i ≤ m) : trH (h.take m) i = trH h i := by
  unfold trH
  split
  · rfl
  · rw [List.getElem?_take_of_lt (by omega)]
theorem xgv {h : Hs} {x : List RE × Tre} {i : Nat} (hi : i ≤ h.length) : trH (h ++ [x]) i = trH h i := by
  unfold trH
  split
  · rfl
  · rw [List.getElem?_append_left (by omega)]
theorem xhm (h : Hs) (x : List RE × Tre) : trH (h ++ [x]) (h.length + 1) = x.2 := by
  rw [xkc (by simp)]; simp
theorem HsOk.nil : HsOk [] := ⟨fun i hi => absurd hi (Nat.not_lt_zero _)⟩
theorem HsOk.take {h : Hs} (H : HsOk h) (m : Nat) : HsOk (h.take m) := ⟨fun i hi => by
  have hi2 : i < m ∧ i < h.length := by rw [List.length_take] at hi; omega
  have := H.step i hi2.2; rw [List.getElem_take, xot (by omega)]
  exact this⟩
theorem HsOk.snoc {h : Hs} (H : HsOk h) {rs : List RE} {t : Tre} (h1 : xkb rs) (h2 : SpA (trH h h.length) (rs.map toE) t) : HsOk (h ++ [(rs, t)]) := ⟨fun i hi => by
  by_cases hlt : i < h.length
  · have := H.step i hlt
    rw [List.getElem_append_left hlt, xgv (by omega)]; exact this
  · have e : i = h.length := by simp at hi; omega
    subst e; rw [xgv (Nat.le_refl _)]
    simpa using ⟨h1, h2⟩⟩
theorem HsOk.size {h : Hs} (H : HsOk h) : ∀ i, i ≤ h.length → (trH h i).size ≤ 8 * i
  | 0, _ => Nat.le_refl 0
  | i + 1, hi => by
    have h1 := H.size i (by omega); obtain ⟨h2, h3⟩ := H.step i (by omega); have h4 := h3.sz; have h5 := h2.n; rw [xkc (by omega)]; rw [List.length_map] at h4; omega
theorem dskB_nil : dskB [] = [] := rfl
theorem xie (h : Hs) (x : List RE × Tre) : dskB (h ++ [x]) = dskB h ++ recO x := by
  unfold dskB; rw [List.map_append, List.flatten_append]; simp
theorem xlm (h : Hs) (i : Nat) : dskB h = dskB (h.take i) ++ dskB (h.drop i) := by
  unfold dskB; rw [← List.flatten_append, ← List.map_append, List.take_append_drop]
theorem xln {h : Hs} {i : Nat} (hi : i < h.length) : dskB (h.drop i) = recO h[i] ++ dskB (h.drop (i + 1)) := by
  unfold dskB; rw [List.drop_eq_getElem_cons hi, List.map_cons, List.flatten_cons]
def endH (h : Hs) (i : Nat) : Nat := (dskB (h.take i)).length
theorem xs5 (h : Hs) : endH h 0 = 0 := rfl
theorem xfy (x : List RE × Tre) : (recO x).length = (xa5 x.1).length + 36 := xfx _ _
theorem xgf {h : Hs} {i : Nat} (hi : i < h.length) : endH h (i + 1) = endH h i + ((xa5 h[i].1).length + 36) := by
  unfold endH; rw [List.take_succ_eq_append_getElem hi, xie, List.length_append, xfy]
theorem xc6 (h : Hs) : endH h h.length = (dskB h).length := by unfold endH; rw [List.take_length]
theorem xrc {h : Hs} : ∀ {i j : Nat}, i ≤ j → j ≤ h.length → endH h i ≤ endH h j := by
  intro i j hij hj
  induction j with
  | zero => rw [Nat.le_zero.1 hij]; exact Nat.le_refl _
  | succ j ih =>
    by_cases e : i = j + 1
    · rw [e]; exact Nat.le_refl _
    · have := ih (by omega) (by omega)
      rw [xgf (by omega)]; omega
theorem xgg {rs : List RE} (h : xkb rs) : 2 ≤ (xa5 rs).length ∧ (xa5 rs).length ≤ 9000 := by
  have h1 := xhl rs.length rs h.k h.v rs.length (Nat.le_refl _); have h2 := h.n; unfold xa5; refine ⟨by unfold xc5; rw [List.length_append, xaq]; omega, by omega⟩
theorem HsOk.len {h : Hs} (H : HsOk h) : ∀ i, i ≤ h.length → endH h i ≤ 9036 * i
  | 0, _ => by rw [xs5]; omega
  | i + 1, hi => by
    have h1 := H.len i (by omega); have h2 := (xgg (H.step i (by omega)).1).2; rw [xgf (by omega)]; omega
theorem xs6 (h : Hs) (tail : List UInt8) (i : Nat) : (dskB h ++ tail).drop (endH h i) = dskB (h.drop i) ++ tail := by
  unfold endH; rw [xlm h i, List.append_assoc, List.drop_left]
theorem xs7 (x : List RE × Tre) (hg : xkb x.1) (m : Nat) (hm : m < (recO x).length) : xis ((recO x).take m) ∧ Torn ((recO x).take m) := by
  obtain ⟨hb1, hb2⟩ := xgg hg; rw [xfy] at hm; have hlm : ((recO x).take m).length = m := by rw [List.length_take, xfy]; omega
  by_cases h4 : m < 4
  · refine ⟨.inl ?_, .inl (by rw [hlm]; exact h4)⟩
    unfold xcg; simp only; rw [if_neg (by rw [hlm]; omega)]
  · have e : (recO x).take m = be 4 (xa5 x.1).length ++ (xa5 x.1 ++ (sumD (xa5 x.1) x.2.dg).l).take (m - 4) := by
      unfold recO recB; rw [List.take_append, xaq, List.take_of_length_le (by rw [xaq]; omega)]
    have hn : numL (some ((recO x).take m)) 4 = (xa5 x.1).length := by
      unfold numL; rw [e, xeb (be 4 _) _ _ (by rw [xaq]), xjg]; exact Nat.mod_eq_of_lt (by omega)
    have hs : xcg (some ((recO x).take m)) 4 = some ((xa5 x.1 ++ (sumD (xa5 x.1) x.2.dg).l).take (m - 4)) := by
      rw [e, xea (be 4 _) _ _ (by rw [xaq]; rfl)]
    refine ⟨.inr ⟨by rw [hn]; omega, by rw [hs]; simp, ?_⟩, .inr ⟨_, _, e, hb1, by omega, by rw [hlm]; omega⟩⟩; rw [hs, hn]
    have hl2 : ((xa5 x.1 ++ (sumD (xa5 x.1) x.2.dg).l).take (m - 4)).length = m - 4 := by
      rw [List.length_take, List.length_append, (sumD (xa5 x.1) x.2.dg).h]; omega
    generalize (xa5 x.1 ++ (sumD (xa5 x.1) x.2.dg).l).take (m - 4) = r at hl2; unfold xcg; simp only; by_cases hr : (xa5 x.1).length ≤ r.length
    · rw [if_pos ⟨by omega, by omega⟩]
      simp only; rw [if_neg]; rw [List.length_drop, Int.toNat_natCast]; omega
    · rw [if_neg (by omega)]
theorem none_rec : xis [] ∧ Torn [] := ⟨.inl rfl, .inl (by decide)⟩
def pwC (x : List UInt8 × Bool × List UInt8) : D32 × Option (List UInt8) := (keyD x.1, if x.2.1 then none else some x.2.2)
theorem pw_toE (e : RE) : pw (toE e) = pwC (cnE e) := by
  unfold pw toE pwC cnE; cases e.r.gone <;> rfl
theorem pw_toR (e : RE) : pw (toE e) = pwC (cnR e) := by
  unfold pw toE pwC cnR; cases e.r.gone <;> rfl
theorem pw_same {es rs : List RE} (h : es.map cnR = rs.map cnE) : (es.map toE).map pw = (rs.map toE).map pw := by
  have h1 : (es.map toE).map pw = (es.map cnR).map pwC := by
    rw [List.map_map, List.map_map]; exact List.map_congr_left fun e _ => pw_toR e
  have h2 : (rs.map toE).map pw = (rs.map cnE).map pwC := by
    rw [List.map_map, List.map_map]; exact List.map_congr_left fun e _ => pw_toE e
  rw [h1, h2, h]
theorem SpA.uniq {told t t' : Tre} {es es' : List WE} (h : SpA told es t) (h' : SpA told es' t') (he : es.map pw = es'.map pw) : t = t' :=
  xh6 h.ok h'.ok fun p => by rw [h.sp p.1 p.2, h'.sp p.1 p.2, he]
theorem xs8 {es rs : List RE} (h : es.map cnR = rs.map cnE) (hg : xkb rs) : es.length = rs.length ∧ xcj es = 0 ∧ (∀ e ∈ es, e.k.length = 32) := by
  have hl : es.length = rs.length := by simpa using congrArg List.length h
  have hat : ∀ e ∈ es, ∃ r ∈ rs, cnR e = cnE r := fun e he => by
    have h1 : cnR e ∈ rs.map cnE := by rw [← h]; exact List.mem_map_of_mem he
    obtain ⟨r, hr, e2⟩ := List.mem_map.1 h1; exact ⟨r, hr, e2.symm⟩
  have hk : ∀ e ∈ es, e.k.length = 32 := fun e he => by
    obtain ⟨r, hr, e2⟩ := hat e he; have h1 : e.k = r.k := congrArg Prod.fst e2; rw [h1]; exact hg.k r hr
  refine ⟨hl, ?_, hk⟩; unfold xcj; rw [if_neg (by rw [Bool.not_eq_true]; exact badK_no.2 hk)]; rw [if_neg]; rw [Bool.not_eq_true]; refine longV_no.2 fun x hx hgn => ?_
  obtain ⟨e, he, rfl⟩ := List.mem_map.1 hx; obtain ⟨r, hr, e2⟩ := hat e he; have h1 : e.r.gone = r.r.gone := congrArg (fun y => y.2.1) e2; have h2 : e.v = (if r.r.gone then [] else r.v) := congrArg (fun y => y.2.2) e2; have h3 : e.r.gone = false := hgn; have h4 : r.r.gone = false := by rw [← h1]; exact h3
  rw [h4] at h2; show e.v.length ≤ 1024; rw [h2]; exact hg.v r hr h4
theorem xmw {rs : List RE} (hn : rs.length ≤ 8) (h : xcj rs = 0) : xkb rs := by
  have hb : badK rs = false := by
    cases hb : badK rs with
    | false => rfl
    | true => unfold xcj at h; rw [if_pos hb] at h; cases h
  have hl : xcz (rs.map toE) = false := by
    cases hl : xcz (rs.map toE) with
    | false => rfl
    | true => unfold xcj at h; rw [if_neg (by rw [hb]; decide), if_pos hl] at h; cases h
  exact ⟨hn, badK_no.1 hb, fun e he hg => longV_no.1 hl (toE e) (List.mem_map_of_mem he) hg⟩
theorem xp6 {P : Program} {w : World} {a : Act} {o : Oper} {T T' : TypeId} {b : Bool} (hT : P.underlying T = some .string) (x y : Operand) (ho : o.op = .binOp .neq T x y T') (l k : List UInt8) (hx : a.eval x = .string ⟨l.toArray⟩) (hy : a.eval y = .string ⟨k.toArray⟩) (h : (!(l == k)) = b) :
    (execOp a.eval o).run P w = .ok (.value (.bool b)) w := by
  unfold execOp; simp only [ho, hx, hy]; go_simp
theorem xif {w0 w w' : World} {S S' : Nat → Prop} (h : Below w0.heap.size w0 w) (hs : Stp S w S' w') (hS : ∀ k, S k → w0.heap.size ≤ k) : Below w0.heap.size w0 w' :=
  Fr.to_below (S := fun k => w0.heap.size ≤ k) ((Fr.of_below h).trans (S := fun k => w0.heap.size ≤ k) ⟨hs.fr.os, hs.fr.tape, hs.fr.output, hs.fr.size, fun k hk hn => hs.fr.block k hk (fun n => hn (hS k n))⟩) (fun k hk hn => absurd hn (by omega))
theorem xmx {fn : Func} {a b c d : Tmp} (h : fn.results = #[.tmp a, .tmp b, .tmp c, .tmp d]) (tmps : Array Value) (P : Program) (w : World) : (results fn tmps).run P w = .ok (.tuple #[tmps.getD a undef, tmps.getD b undef, tmps.getD c undef, tmps.getD d undef]) w := by
  simp only [results, h]; simp [Sem.run_bind, Result.andThen]
theorem zr213r : ZA Tryz.prog 213 Rcd.z.cells := zr213
def BatG (S : Nat → Prop) (gd u : Nat) (t' : Tre) (w : World) (e : Ending) (w' : World) : Prop := ∃ S', e = .returned (.int .i64 0) ∧ DkW S' w' gd t' u ∧ Stp S w S' w'
theorem Rd.keepS {w2 w : World} {D2 : Nat → Prop} {L : List (Nat × Nat × List Value)} {A : Option Addr} {cs : List Value} (h : Rd w2 A cs) (H : Loc w2 D2 L w) (hfr : ∀ k, k < w2.heap.size → (∀ ad, A = some ad → ad.block = k → D2 k)) : Rd w A cs :=
  h.keepE H fun hne ad e => by
    obtain ⟨ad', e', hc⟩ := h (List.length_pos_iff.2 hne); have e2 := e; rw [e] at e'; cases e'; have := World.block_lt_of_cell? _ _ (hc 0 _ (List.getElem?_eq_getElem (List.length_pos_iff.2 hne))); exact hfr _ (by rwa [show (ad.add 0).block = ad.block by unfold Addr.add; split <;> rfl] at this) ad e2 rfl
theorem Tx.keepS {w2 w : World} {D2 : Nat → Prop} {L : List (Nat × Nat × List Value)} {A : Option Addr} {n c : Nat} {l : List UInt8} (h : Tx w2 A n c l) (H : Loc w2 D2 L w) (hfr : ∀ k, k < w2.heap.size → (∀ ad, A = some ad → ad.block = k → D2 k)) : Tx w A n c l :=
  ⟨h.len, h.cap, h.max, h.rd.keepS H hfr, fun _ _ h => h⟩
theorem xs9 {w : World} (A : Option Addr) (n c : Nat) (h : Hs) (H : HsOk h) (hl : h.length ≤ 11) (tail : List UInt8) (ht : xis tail ∧ Torn tail) (htl : tail.length ≤ 70036) (hT : Tx w A n c (dskB h ++ tail)) (hn : n ≤ 140737488351232) :
    Calls Tryz.prog 68 #[.slice A n c, .int .i64 60000] w fun e w' => ∃ gd S, e = .returned (.tuple #[.pointer (some ⟨gd, 0, none⟩), .int .i64 (h.length : Int), .int .i64 ((dskB h).length : Int), .int .i64 0]) ∧ DkW S w' gd (trH h h.length) (2056 * h.length) ∧ (∀ k, S k → w.heap.size ≤ k) ∧ Below w.heap.size w w' := by
  have HTX := hZ hT; have HOK := hZ H; have HTL := hZ ht; have HLN : Hid ((dskB h).length + tail.length = n) := hZ (by have := hT.len; rw [List.length_append] at this; exact this); clear hT H ht; have HL := Loc.start w; obtain ⟨w0, rfl⟩ := eW w; go_enter Tryz.func68, Tryz.ntmps68; go_upto_region 0 with fail; refine Xs ?_; refine Xw ?_; refine X7g ?_; go_upto_region 1 with fail; refine X1x ?_; intro K hK; refine xac cf36 rfl _ rfl ?_; refine X1y ?_; (with_reducible refine (dk_new _).mono ?_); rintro e w ⟨gd, S, rfl, hd, hS, hb⟩; have HD0 := hZ hd; have HS0 : Hid (∀ k, S k → w0.heap.size ≤ k) := hZ (fun k hk => Nat.le_trans HL.below.size (hS k hk)); have HB0 := hZ (HL.below.trans (hb.mono HL.below.size)); clear HL hd hS hb; have HL := Loc.start w; refine X7d ?_; clear hK K; go_upto_region 2 with fail; refine X2o ?_; go_upto_region 4 with fail; refine X2z ?_; go_upto_region 5 with fail
  refine X1j ?_; go_wp2_with fail; clear HL
  go_loopw [10, 11, 12] (fun x y bh wr => ∃ (i : Nat) (S : Nat → Prop), i ≤ h.length ∧ x = .int .i64 (i : Int) ∧ y = .int .i64 (endH h i : Int) ∧ bh = .bool true ∧ DkW S wr gd (trH h i) (2056 * i) ∧ (∀ k, S k → w0.heap.size ≤ k) ∧ Below w0.heap.size w0 wr) (fun x _ _ _ => (h.length - intOf x).toNat)
  case atStart => exact ⟨0, S, Nat.zero_le _, rfl, rfl, rfl, HD0.out, HS0.out, HB0.out⟩
  case round => as_aux_lemma =>
    clear HD0 HS0 HB0; obtain ⟨i, S, hi, rfl, rfl, rfl, hdk, hS, hb0⟩ := hrel; obtain ⟨w1, rfl⟩ := eW wr; obtain ⟨w, rfl⟩ : ∃ w, w = w1 := ⟨_, rfl⟩; obtain ⟨w1, rfl⟩ := eW w; have HDK := hZ hdk; have HS := hZ hS; have HB0 := hZ hb0; have HEN : Hid (endH h i ≤ (dskB h).length) := hZ (by rw [← xc6]; exact xrc hi (Nat.le_refl _))
    have HTC : Hid (Tx w1 (cutA A c (endH h i) 1) (n - endH h i) (c - endH h i) (dskB (h.drop i) ++ tail)) := hZ (by
      have := Lft.cut (HTX.out.below HB0.out) (endH h i) (by have := HLN.out; have := HEN.out; omega); rw [xs6] at this
      exact this)
    clear hdk hS hb0; have HL := Loc.start w1; by_cases hlt : i < h.length
    · have HR := hZ (HOK.out.step i hlt)
      have HT1 : Hid (trH h (i + 1) = h[i].2) := hZ (xkc hlt); have HE1 := hZ (xgf (h := h) hlt); have HSZ := hZ (HOK.out.size i hi); have HDD : Hid (dskB (h.drop i) = recO h[i] ++ dskB (h.drop (i + 1))) := hZ (xln hlt); obtain ⟨z, hz⟩ : ∃ z, h[i] = z := ⟨_, rfl⟩; rw [hz] at HR HT1 HE1 HDD; clear hz; obtain ⟨rs, t'⟩ := z; replace HR : Hid (xkb rs ∧ SpA (trH h i) (rs.map toE) t') := HR; replace HT1 : Hid (trH h (i + 1) = t') := HT1; replace HE1 : Hid (endH h (i + 1) = endH h i + ((xa5 rs).length + 36)) := HE1; replace HDD : Hid (dskB (h.drop i) = recB (xa5 rs) (sumD (xa5 rs) t'.dg) ++ dskB (h.drop (i + 1))) := HDD
      have CN : ∀ u, Below w1.heap.size w1 u → Hid (Calls Tryz.prog 118 #[.slice (cutA A c (endH h i) 1) (n - endH h i) (c - endH h i)] u (NextY u rs (sumD (xa5 rs) t'.dg))) := fun u hu => hZ (next_ok _ _ _ (dskB (h.drop (i + 1)) ++ tail) rs _ (by
        have := HTC.out.below hu; rw [HDD.out, List.append_assoc] at this
        exact this) (by have := HR.out.1.n; omega) (by omega) HR.out.1.k HR.out.1.v)
      clear HTC; refine X9k ?_; intro HI1; have HI2 : Hid ((endH h i : Int) + (((xa5 rs).length + 36 : Nat) : Int) = ((endH h (i + 1) : Nat) : Int)) := hZ (by rw [HE1.out]; omega); have HI3 : Hid (((endH h (i + 1) : Nat) : Int) ≤ 100000000) := hZ (by have := HOK.out.len (i + 1) (by omega); omega); have HIL : Hid (endH h i ≤ n) := hZ (by have := HLN.out; have := HEN.out; omega); go_upto_region 6 with fail; refine X18 ?_; refine xaa rfl _ (xco sl25 _ _ rfl A n c (endH h i) .i64 rfl rfl HIL.out) ?_; refine X4z ?_; intro K hK; refine xac cf118 rfl _ rfl ?_; refine X1y ?_; (with_reducible refine ((CN _ HL.below).out).mono ?_); rintro e w ⟨x, es, rfl, hRW, hES, hbt, hst, hsz, hb, hbA, hsA⟩; have HB1 := hZ (HL.below.trans (hb.mono HL.below.size)); have HDK1 := hZ (HDK.out.below HB1.out); have HSL : Hid (∀ k, S k → k < w1.heap.size) := hZ (fun k hk => HDK.out.lt k hk)
      have HRW := hZ (hRW.weak (D := S) (fun k hk => Nat.lt_of_lt_of_le (HSL.out k hk) HL.below.size)); have HES := hZ (xs8 hES HR.out.1); have HPW := hZ (pw_same hES); have HBT := hZ hbt; have HST := hZ hst; have HBA : Hid (∀ ad, x.body.A = some ad → ¬ S ad.block) := hZ (fun ad e hk => by have h1 := hbA ad e; have h2 := HSL.out _ hk; have h3 := HL.below.size; omega); have HSA : Hid (∀ ad, x.sum.A = some ad → ¬ S ad.block) := hZ (fun ad e hk => by have h1 := hsA ad e; have h2 := HSL.out _ hk; have h3 := HL.below.size; omega); have HXZ := hZ hsz; clear HL hRW hES hbt hst hb hbA hsA CN hsz; have HL := Loc.start w; obtain ⟨w2, rfl⟩ := eW w; refine X51 ?_; clear hK K; refine xai zr213r rfl rfl HL ?_; clear HL; intro g13 w HL; refine Xet ?_; refine X4c ?_; clear HL; intro w HL; go_upto_region 7 with fail; refine X2o ?_; have HB2 := hZ HL.below
      have HS13 : Hid (¬ S g13) := hZ (fun hk => (HL.own _ (.head _)).1 (by have h1 := HSL.out _ hk; have h2 := HB1.out.size; exact Nat.lt_of_lt_of_le h1 h2)); have HX := HL.less (D' := fun k => Old w2 k ∧ ¬ S k) (fun k hk => hk.1); clear HL; have HL := HX; clear HX
      have CB : ∀ u, Below w2.heap.size w2 u → Hid (Calls Tryz.prog 74 #[.pointer (some ⟨gd, 0, none⟩), x.ws.v] u (BatG S gd (2056 * (i + 1)) t' u)) := fun u hu => hZ (by
        have hn9 : x.ws.n = rs.length := by rw [← HRW.out.len, HES.out.1]
        have hn8 := HR.out.1.n; refine (dk_batch (HDK1.out.below hu) x.ws.A x.ws.n x.ws.c es (HRW.out.below hu) (by omega) (fun e he => by rw [HES.out.2.2 e he]; decide) (by have := HSZ.out; omega) (by omega)).mono ?_; rintro e w' (⟨h1, _⟩ | ⟨_, t2, S', h2, h3, h4, h5⟩)
        · exact absurd HES.out.2.1 h1
        · have := h5.uniq HR.out.2 HPW.out
          subst this
          exact ⟨S', h2, h3.more (by omega), h4⟩)
      go_upto_region 8 with fail; refine X11 ?_; refine xaa rfl _ (xaf xqm _ rfl _ rfl) ?_; refine X5 ?_; refine xaa rfl _ (xah sc73 HL _ rfl _ _ rfl _ _ _ (.head _) (Rcd.g_ws _)) ?_; refine X4z ?_; intro K hK; refine xac cf74 rfl _ rfl ?_; refine X1y ?_; (with_reducible refine ((CB _ HB2.out).out).mono ?_); rintro e w ⟨S', rfl, hD2, hS2⟩; have HDK2 := hZ hD2; have HS2 := hZ ((Stp.of_below HB2.out).trans hS2); replace HL := HL.frame hS2.fr (fun k hk hd => hd.2 hk) (fun y hy => by rw [List.mem_singleton.1 hy]; exact HS13.out); clear hD2 hS2 CB; have HBT2 := hZ (HBT.out.keepS HL (fun k hk ad e e2 => ⟨hk, fun hs => HBA.out ad e (by rw [e2]; exact hs)⟩)); have HST2 := hZ (HST.out.keepS HL (fun k hk ad e e2 => ⟨hk, fun hs => HSA.out ad e (by rw [e2]; exact hs)⟩)); have HG13 := hZ (HL.blk (.head _)); clear HL; have HL := Loc.start w; obtain ⟨w3, rfl⟩ := eW w
      have hg13 : Old w3 g13 := HG13.out.lt; have hc1 : w3.cell? ⟨g13, 1, none⟩ = some x.body.v := by rw [HG13.out.cell]; rfl
      have hc2 : w3.cell? ⟨g13, 2, none⟩ = some x.sum.v := by rw [HG13.out.cell]; rfl
      have hc3 : w3.cell? ⟨g13, 3, none⟩ = some (.int .i64 (((xa5 rs).length + 36 : Nat) : Int)) := by rw [HG13.out.cell, ← HXZ.out]; rfl
      refine X2n ?_; clear hK K; go_upto_region 9 with fail; refine Xcn ?_; have HTN : Hid (x.body.n ≤ 1099511627776) := hZ (by have h1 := (xgg HR.out.1).2; have h2 := HBT2.out.len; omega); have CD : ∀ u, Below w3.heap.size w3 u → Hid (Calls Tryz.prog 76 #[x.body.v, t'.dg.a] u fun e w' => e = .returned (sumD (xa5 rs) t'.dg).a ∧ Below u.heap.size u w') := fun u hu => hZ (xj7 x.body.A x.body.n x.body.c (xa5 rs) t'.dg (HBT2.out.below hu) HTN.out)
      go_upto_region 11 with fail; refine X1x ?_; intro K hK; refine Xeu ?_; (with_reducible refine (xq8 (HDK2.out.below HL.below)).mono ?_); refine X4a ?_; clear hK K; intro w HL; refine xai zr23 rfl rfl HL ?_; clear HL; intro g16 w HL; refine X5m ?_; refine X4c ?_; clear HL; intro w HL; go_upto_region 12 with fail; refine Xs ?_; refine Xeo ?_; refine X5 ?_; refine xaa rfl _ (xax sc25 HL _ rfl _ rfl _ hg13 hc1) ?_; refine X5 ?_; refine Xev ?_; refine X4z ?_; intro K hK; refine xac cf76 rfl _ rfl ?_; refine X1y ?_; (with_reducible refine ((CD _ HL.below).out).mono ?_); refine X4x ?_; clear hK K; intro w HL; refine xai zr23 rfl rfl HL ?_; clear HL; intro g18 w HL; refine X5m ?_; refine X35 ?_; clear HL; intro w HL; have k13 : (!((sumD (xa5 rs) t'.dg).l == (sumD (xa5 rs) t'.dg).l)) = false := by simp
      go_upto_region 13 with fail; refine rB (Loc.P HL) [] [] [0, 1, 2, 3, 4, 5] 0 ?_; refine X3a ?_; intro HL; refine xab rfl rfl HL (fun W hW => xcl ia25 _ rfl g18 0 rfl) ?_; refine X5 ?_; refine xab rfl rfl HL (fun W hW => xbd bt _ rfl (some ⟨g18, 0, none⟩) 32 32 rfl (sumD (xa5 rs) t'.dg).l (Rd.of_blk0 (es := []) (by rw [List.append_nil]; exact hW.blk (.head _))) (D32.h _)) ?_; refine X5 ?_; refine xab rfl rfl HL (fun W hW => xaf xl5 _ rfl _ rfl) ?_; refine X5 ?_; refine xab rfl rfl HL (fun W hW => xax sc25 hW _ rfl _ rfl _ hg13 hc2) ?_; refine X5 ?_; refine xab rfl rfl HL (fun W hW => xbd bt _ rfl x.sum.A x.sum.n x.sum.c rfl (sumD (xa5 rs) t'.dg).l (hW.rdO HST2.out.rd) HST2.out.len) ?_; refine X5 ?_; refine xab rfl rfl HL (fun W hW => xp6 (b := false) Tryz.underlying9 _ _ rfl _ _ rfl rfl k13) ?_
      refine Xm ?_; go_upto_region 15 with fail; refine X9o ?_; go_upto_region 16 with fail; refine X11 ?_; refine xaa rfl _ (xaf xqn _ rfl _ rfl) ?_; refine X5 ?_; refine xaa rfl _ (xax sc3 HL _ rfl _ rfl _ hg13 hc3) ?_; refine X5 ?_; refine xaa rfl _ (xay _ _ rfl _ _ _ rfl rfl HI2.out (by have := HI3.out; omega)) ?_; refine X19 ?_; go_wp2_with fail; go_roundw
      case rel =>
        refine ⟨i + 1, S', by omega, rfl, rfl, rfl, by rw [HT1.out]; exact HDK2.out.below HL.below, fun k hk => ?_, ?_⟩
        · rcases HS2.out.new k hk with h1 | h1
          · exact HS.out k h1
          · have h2 := HB0.out.size; have h3 := HB1.out.size; omega
        · have h2 := HB0.out.size
          have h4 := xif (HB0.out.trans (HB1.out.mono h2)) HS2.out HS.out; exact h4.trans (HL.below.mono h4.size)
      case measure => simp [intOf] <;> omega
    · obtain rfl : i = h.length := by omega
      have HTC2 : Hid (Tx w1 (cutA A c (dskB h).length 1) (n - (dskB h).length) (c - (dskB h).length) tail) := hZ (by
        have := HTC.out; rw [List.drop_length, xc6] at this
        exact this)
      rw [xc6]; have HIL : Hid ((dskB h).length ≤ n) := hZ (by have := HLN.out; omega); have CN : ∀ u, Below w1.heap.size w1 u → Hid (Calls Tryz.prog 118 #[.slice (cutA A c (dskB h).length 1) (n - (dskB h).length) (c - (dskB h).length)] u (NextN u)) := fun u hu => hZ (next_no _ _ _ tail (HTC2.out.below hu) (by have := HLN.out; omega) HTL.out.1)
      have CT : ∀ u, Below w1.heap.size w1 u → Hid (Calls Tryz.prog 119 #[.slice (cutA A c (dskB h).length 1) (n - (dskB h).length) (c - (dskB h).length)] u fun e w' => e = .returned (.bool true) ∧ Below u.heap.size u w') := fun u hu => hZ (torn_yes _ _ _ tail (HTC2.out.below hu) HTL.out.2 (by omega))
      clear HTC; go_upto_region 6 with fail; refine X18 ?_; refine Xew ?_; refine X4z ?_; intro K hK; refine xac cf118 rfl _ rfl ?_; refine X1y ?_; (with_reducible refine ((CN _ HL.below).out).mono ?_); refine X4a ?_; clear hK K; intro w HL; refine xai zr213r rfl rfl HL ?_; clear HL; intro g13 w HL; refine Xet ?_; refine X4c ?_; clear HL; intro w HL; go_upto_region 7 with fail; refine X2o ?_; go_upto_region 17 with fail; refine X18 ?_; refine Xew ?_; refine X4z ?_; intro K hK; refine xac cf119 rfl _ rfl ?_; refine X1y ?_; (with_reducible refine ((CT _ HL.below).out).mono ?_); refine X4x ?_; clear hK K; intro w HL; refine X1n ?_; refine X2b ?_; go_upto_region 19 with fail; refine X6m ?_; refine Xw ?_; refine X7g ?_; go_wp2_with fail; refine Xa ?_; refine bodyPost_ret (xmx rfl _ _ _) rfl ?_
      exact ⟨gd, S, rfl, HDK.out.below HL.below, HS.out, HB0.out.trans (HL.below.mono HB0.out.size)⟩
theorem bs151 : BS Tryz.prog 151 [.pointer none, .pointer none, .int .i64 0] [(0, 1), (1, 1), (2, 1)] := BS.of Tryz.underlying151 (by kernel_rfl) (by kernel_rfl)
def jrC (gk gd n : Nat) : List Value := [.pointer (some ⟨gk, 0, none⟩), .pointer (some ⟨gd, 0, none⟩), .int .i64 (n : Int)]
theorem bd151 (gk gd n : Nat) : Instr.fill (fun x => [(0, 1), (1, 1), (2, 1)].toArray[x]?) ([.pointer none, .pointer none, .int .i64 0] : List Value).toArray [(0, .pointer (some ⟨gk, 0, none⟩)), (1, .pointer (some ⟨gd, 0, none⟩)), (2, .int .i64 (n : Int))] = some (jrC gk gd n).toArray := by
  refine xaj (vs := [.pointer (some ⟨gk, 0, none⟩)]) rfl rfl rfl (by decide) ?_; refine xaj (vs := [.pointer (some ⟨gd, 0, none⟩)]) rfl rfl rfl (by simp [splice]) ?_; refine xaj (vs := [.int .i64 (n : Int)]) rfl rfl rfl (by simp [splice]) ?_; rfl
structure JrP (Y S : Nat → Prop) (w : World) (gj gk gd : Nat) (b : Sv) (l : List UInt8) (s : Nat) (t : Tre) (n u : Nat) : Prop where
  jb : Blk w gj 151 (jrC gk gd n)
  dk : DskP Y w gk b l s
  dc : DkW S w gd t u
  ys : ∀ k, Y k → ¬ S k
  yj : ¬ Y gj
  sj : ¬ S gj
  yl : ∀ k, Y k → k < w.heap.size
section
variable {Y S : Nat → Prop} {w w' : World} {gj gk gd : Nat} {b : Sv} {l : List UInt8} {s n u : Nat} {t : Tre}
theorem JrP.below (h : JrP Y S w gj gk gd b l s t n u) (hb : Below w.heap.size w w') : JrP Y S w' gj gk gd b l s t n u :=
  ⟨h.jb.below hb h.jb.lt, h.dk.below hb, h.dc.below hb, h.ys, h.yj, h.sj, fun k hk => Nat.lt_of_lt_of_le (h.yl k hk) hb.size⟩
theorem JrP.fr (h : JrP Y S w gj gk gd b l s t n u) {T : Nat → Prop} (hf : Fr T w w') (hT : ∀ k, Y k ∨ S k ∨ k = gj → ¬ T k) : JrP Y S w' gj gk gd b l s t n u :=
  ⟨h.jb.fr hf (hT _ (.inr (.inr rfl))), h.dk.fr hf (fun k hk => hT k (.inl hk)), h.dc.fr hf (fun k hk => hT k (.inr (.inl hk))), h.ys, h.yj, h.sj, fun k hk => Nat.lt_of_lt_of_le (h.yl k hk) hf.size⟩
theorem JrP.c0 (h : JrP Y S w gj gk gd b l s t n u) : w.cell? ⟨gj, 0, none⟩ = some (.pointer (some ⟨gk, 0, none⟩)) := by rw [h.jb.cell]; rfl
theorem JrP.c1 (h : JrP Y S w gj gk gd b l s t n u) : w.cell? ⟨gj, 1, none⟩ = some (.pointer (some ⟨gd, 0, none⟩)) := by rw [h.jb.cell]; rfl
theorem JrP.c2 (h : JrP Y S w gj gk gd b l s t n u) : w.cell? ⟨gj, 2, none⟩ = some (.int .i64 (n : Int)) := by rw [h.jb.cell]; rfl
theorem xrd (h : JrP Y S w gj gk gd b l s t n u) : Calls Tryz.prog 71 #[.pointer (some ⟨gj, 0, none⟩)] w fun e w' => e = .returned (.bool false) ∧ w = w' := by
  have hgj : Old w gj := h.jb.lt; have hc1 := h.c1; clear h; have HL := Loc.start w; obtain ⟨w0, rfl⟩ := eW w; go_enter Tryz.func71, Tryz.ntmps71; go_upto_region 0 with fail; refine X1j ?_; go_upto_region 1 with fail; refine X1q ?_; refine xad rfl _ (xaf xqk _ rfl _ rfl) ?_; refine X5 ?_; refine xad rfl _ (xax sc85 HL _ rfl _ rfl _ hgj hc1) ?_; refine X5 ?_; refine X1v ?_; go_wp2_with fail; go_ret; exact ⟨rfl, rfl⟩
theorem xkd (h : JrP Y S w gj gk gd b l s t n u) : Calls Tryz.prog 26 #[.pointer (some ⟨gj, 0, none⟩)] w fun e w' => e = .returned (.int .i64 (n : Int)) ∧ w = w' := by
  have HH := hZ h; have hgj : Old w gj := h.jb.lt; have hc2 := h.c2; clear h; have HL := Loc.start w; obtain ⟨w0, rfl⟩ := eW w; go_enter Tryz.func26, Tryz.ntmps26; go_upto_region 0 with fail; refine X1j ?_; go_upto_region 1 with fail; refine X1x ?_; intro K hK; refine Xex ?_; refine X1y ?_; (with_reducible refine (xrd HH.out).mono ?_); rintro e w ⟨rfl, rfl⟩; refine X22 ?_; clear hK K; go_upto_region 3 with fail; refine X13 ?_; refine Xey ?_; refine X5 ?_; refine xaa rfl _ (xax sc3 HL _ rfl _ rfl _ hgj hc2) ?_; refine X19 ?_; go_wp2_with fail; go_ret; exact ⟨rfl, rfl⟩
theorem xhn (h : JrP Y S w gj gk gd b l s t n u) : Calls Tryz.prog 19 #[.pointer (some ⟨gj, 0, none⟩)] w fun e w' => e = .returned t.dg.a ∧ Below w.heap.size w w' := by
  have HH := hZ h; have hgj : Old w gj := h.jb.lt; have hc1 := h.c1; clear h; have HL := Loc.start w; obtain ⟨w0, rfl⟩ := eW w; go_enter Tryz.func19, Tryz.ntmps19; go_upto_region 0 with fail; refine Xs ?_; refine xai zr23 rfl rfl HL ?_; clear HL; intro g2 w HL; refine X21 ?_; go_upto_region 1 with fail; refine X1x ?_; intro K hK; refine Xex ?_; refine X1y ?_; refine Xez ?_; rintro e w ⟨rfl, rfl⟩; refine X22 ?_; clear hK K; go_upto_region 3 with fail; refine Xf0 ?_; refine Xf1 ?_; refine X4z ?_; intro K hK; refine Xeu ?_; (with_reducible refine (xq8 (HH.out.dc.below HL.below)).mono ?_); refine X4a ?_; clear hK K; intro w HL; refine xai zr23 rfl rfl HL ?_; clear HL; intro g3 w HL; refine X5m ?_; refine X4c ?_; clear HL; intro w HL; go_upto_region 4 with fail; refine Xs ?_; refine Xev ?_; refine X4v ?_; refine X35 ?_; clear HL; intro w HL; go_wp2_with fail; refine Xa ?_
  refine bodyPost_ret (xb3 rfl ag23 _ _ g2 23 _ rfl (HL.blk (.tail _ (.head _))) (D32.cl _)) rfl ?_; exact ⟨rfl, HL.below⟩
theorem jr_get (h : JrP Y S w gj gk gd b l s t n u) (A : Option Addr) (c : Nat) (key : D32) (hr : Rd w A (bvs key.l)) (hc : 32 ≤ c) (val : List UInt8) (hm : (key, val) ∈ t.ents) :
    Calls Tryz.prog 27 #[.pointer (some ⟨gj, 0, none⟩), .slice A 32 c] w fun e w' => ∃ v, e = .returned (.tuple #[v, .bool true, .int .i64 0]) ∧ OwnB w' w.heap.size 5 v val ∧ Below w.heap.size w w' := by
  have HH := hZ h; have hgj : Old w gj := h.jb.lt; have hc1 := h.c1; have HR := hZ hr; have CG : ∀ u, Below w.heap.size w u → Hid (Calls Tryz.prog 37 #[.pointer (some ⟨gd, 0, none⟩), .string ⟨#[]⟩, .slice A 32 c] u fun e w' => ∃ v, e = .returned (.tuple #[v, .bool true, .int .i64 0]) ∧ OwnB w' u.heap.size 5 v val ∧ Below u.heap.size u w') := fun u hu => hZ (dk_get (h.dc.below hu) A c key (hr.below hu) hc val hm)
  clear h hr hm; have HL := Loc.start w; obtain ⟨w0, rfl⟩ := eW w; go_enter Tryz.func27, Tryz.ntmps27; go_upto_region 0 with fail; refine Xs ?_; refine X7g ?_; go_upto_region 1 with fail; refine X1x ?_; intro K hK; refine Xex ?_; refine X1y ?_; refine Xez ?_; rintro e w ⟨rfl, rfl⟩; refine X22 ?_; clear hK K; go_upto_region 3 with fail; refine Xf0 ?_; refine Xf1 ?_; refine X42 ?_; intro K hK; refine xac cf37 rfl _ rfl ?_; refine X1y ?_; (with_reducible refine ((CG _ HL.below).out).mono ?_); rintro e w ⟨v, rfl, hov, hb⟩; have HOV := hZ (hov.mono HL.below.size); replace HL := HL.next hb; clear hb hov; refine X5i ?_; clear hK K; refine X48 ?_; refine X47 ?_; refine X7g ?_; go_wp2_with fail
  go_ret3
  exact ⟨v, rfl, HOV.out, HL.below⟩
theorem xmy (h : JrP Y S w gj gk gd b l s t n u) : Calls Tryz.prog 23 #[.pointer (some ⟨gj, 0, none⟩)] w fun e w' => e = .returned (.int .i64 0) ∧ JrP Y S w' gj gk gd b l l.length t n u ∧ Fr (· = gk) w w' := by
  have HH := hZ h; have hgj : Old w gj := h.jb.lt; have hc0 := h.c0; clear h; have HL := Loc.start w; obtain ⟨w0, rfl⟩ := eW w; go_enter Tryz.func23, Tryz.ntmps23; go_upto_region 0 with fail; refine X1j ?_; go_upto_region 1 with fail; refine X1x ?_; intro K hK; refine Xex ?_; refine X1y ?_; refine Xez ?_; rintro e w ⟨rfl, rfl⟩; refine X22 ?_; clear hK K; have HB := hZ HL.below; go_upto_region 3 with fail; refine X13 ?_; refine xaa rfl _ (xaf xqj _ rfl _ rfl) ?_; refine X5 ?_; refine xaa rfl _ (xax sc65 HL _ rfl _ rfl _ hgj hc0) ?_; refine X4z ?_; intro K hK; refine xac cf70 rfl _ rfl ?_; refine X1y ?_; (with_reducible refine (xoo (HH.out.dk.below HB.out)).mono ?_); rintro e w ⟨rfl, hD, hf⟩; have HD := hZ hD; have HF := hZ hf; clear HL hD hf; have HL := Loc.start w; refine X2n ?_; clear hK K; go_wp2_with fail; go_ret; have hj := HH.out
  have hn : ∀ k, S k ∨ k = gj → ¬ k = gk := fun k hk e => hk.elim (fun h1 => hj.ys gk hj.dk.2.1 (e ▸ h1)) (fun h1 => hj.yj (by rw [← h1, e]; exact hj.dk.2.1))
  exact ⟨rfl, ⟨hj.jb.fr HF.out (hn _ (.inr rfl)), HD.out, hj.dc.fr HF.out (fun k hk => hn k (.inl hk)), hj.ys, hj.yj, hj.sj, fun k hk => Nat.lt_of_lt_of_le (hj.yl k hk) HF.out.size⟩, HF.out⟩
def OpenO (Y : Nat → Prop) (w : World) (gk : Nat) (h : Hs) (e : Ending) (w' : World) : Prop :=
  ∃ gj gd S b', e = .returned (.tuple #[.pointer (some ⟨gj, 0, none⟩), .int .i64 0]) ∧ JrP Y S w' gj gk gd b' (dskB h) (dskB h).length (trH h h.length) h.length (2056 * h.length) ∧ (∀ k, S k → w.heap.size ≤ k) ∧ w.heap.size ≤ gj ∧ Fr (· = gk) w w'
theorem xmz (h : Hs) (H : HsOk h) (hl : h.length ≤ 11) (tail : List UInt8) (ht : xis tail ∧ Torn tail) (htl : tail.length ≤ 70036) (hd : DskP Y w gk b (dskB h ++ tail) s) (hY : ∀ k, Y k → k < w.heap.size) :
    Calls Tryz.prog 18 #[.pointer (some ⟨gk, 0, none⟩), .int .i64 60000] w (OpenO Y w gk h) := by
  have HD := hZ hd; have HY := hZ hY; have hgk : Old w gk := hd.1.lt; have hc0 := hd.c0; have HB9 : Hid ((dskB h ++ tail).length ≤ 140737488351232) := hZ (by have := H.len h.length (Nat.le_refl _); rw [xc6] at this; rw [List.length_append]; omega); have CR : ∀ u, Below w.heap.size w u → Hid (Calls Tryz.prog 68 #[b.v, .int .i64 60000] u fun e w' => ∃ gd S, e = .returned (.tuple #[.pointer (some ⟨gd, 0, none⟩), .int .i64 (h.length : Int), .int .i64 ((dskB h).length : Int), .int .i64 0]) ∧ DkW S w' gd (trH h h.length) (2056 * h.length) ∧ (∀ k, S k → u.heap.size ≤ k) ∧ Below u.heap.size u w') := fun u hu => hZ (xs9 b.A b.n b.c h H hl tail ht htl (hd.tx.below hu) (by rw [hd.n]; exact HB9.out))
  have HTK : Hid ((dskB h ++ tail).take (dskB h).length = dskB h) := hZ List.take_left; have HLE : Hid ((dskB h).length ≤ (dskB h ++ tail).length) := hZ (by rw [List.length_append]; omega); clear hd hY H ht; have HL := Loc.start w; obtain ⟨w0, rfl⟩ := eW w; go_enter Tryz.func18, Tryz.ntmps18; go_upto_region 0 with fail; refine X2z ?_; go_upto_region 1 with fail; refine Xdi ?_; intro K hK; (with_reducible refine (xhk (HD.out.below HL.below)).mono ?_); rintro e w ⟨rfl, rfl⟩; refine X22 ?_; clear hK K; go_upto_region 3 with fail; refine X13 ?_; refine Xdk ?_; refine X5 ?_; refine xaa rfl _ (xax sc25 HL _ rfl _ rfl _ hgk hc0) ?_; refine X42 ?_; intro K hK; refine xac cf68 rfl _ rfl ?_; refine Xdh ?_; rintro e w ⟨gd, S, rfl, hdc, hS, hb⟩; have HDC := hZ hdc; have HS : Hid (∀ k, S k → w0.heap.size ≤ k) := hZ (fun k hk => Nat.le_trans HL.below.size (hS k hk))
  have HB1 := hZ (HL.below.trans (hb.mono HL.below.size)); clear HL hdc hS hb CR; have HL := Loc.start w; obtain ⟨w1, rfl⟩ := eW w; refine X51 ?_; clear hK K; refine X48 ?_; refine Xw ?_; refine X7g ?_; go_upto_region 4 with fail; refine Xcn ?_; go_upto_region 6 with fail; refine X2k ?_; intro K hK; refine xac cf69 rfl _ rfl ?_; refine X1y ?_; (with_reducible refine (dsk_cut (HD.out.below HB1.out) (dskB h).length HLE.out).mono ?_); rintro e w ⟨rfl, hD2, hf2⟩; have HD2 := hZ hD2; have HF2 := hZ hf2; clear HL hD2 hf2; have HL := Loc.start w; obtain ⟨w2, rfl⟩ := eW w; refine X22 ?_; clear hK K; go_upto_region 7 with fail; refine X1x ?_; intro K hK; refine xac cf70 rfl _ rfl ?_; refine X1y ?_; (with_reducible refine (xoo HD2.out).mono ?_); rintro e w ⟨rfl, hD3, hf3⟩; have HD3 := hZ hD3; have HF3 := hZ (HF2.out.trans hf3); clear HL hD3 hf3; have HL := Loc.start w
  obtain ⟨w3, rfl⟩ := eW w; refine X22 ?_; clear hK K; go_upto_region 8 with fail; refine X6m ?_; refine xaa rfl _ (xbq bs151 _ rfl _ (by exact bd151 gk gd h.length)) ?_; refine X5 ?_; refine xcb rfl _ rfl HL (jrC gk gd h.length) rfl ?_; clear HL; intro g35 w HL; refine Xt ?_; refine X1f ?_; go_wp2_with fail; go_ret2; have ho := HL.own _ (.head _); have hd3 := HD3.out; rw [HTK.out] at hd3; have hgY := HD.out.2.1; have hlt := HY.out gk hgY; have hf : Fr (· = gk) w0 w := ((Fr.of_below HB1.out).trans HF3.out).trans (Fr.of_below HL.below); have hne : ∀ k, S k → ¬ k = gk := fun k hk e => by have := HS.out k hk; omega
  have hs1 := HB1.out.size; have hs3 := HF3.out.size
  have hj : w0.heap.size ≤ g35 := by
    have := ho.1; unfold Old at this; omega
  refine ⟨g35, gd, S, _, rfl, ⟨ho.2, hd3.below HL.below, (HDC.out.fr HF3.out hne).below HL.below, fun k hk hs => by have h1 := HY.out k hk; have h2 := HS.out k hs; omega, fun hk => by have := HY.out _ hk; omega, fun hk => ?_, fun k hk => Nat.lt_of_lt_of_le (HY.out k hk) hf.size⟩, HS.out, hj, hf⟩; have h1 := HDC.out.lt _ hk; have h2 := ho.1; unfold Old at h2; omega
end
end Go.Proofs.YtkjjdgnkelchfaaGreat
