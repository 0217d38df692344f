import Derived.Test.YtkjjdgnkelchfaaGreatPCU17
set_option linter.unusedSimpArgs false
set_option linter.unusedVariables false
set_option maxRecDepth 100000
set_option maxHeartbeats 16000000
namespace Go.Proofs.YtkjjdgnkelchfaaGreat
open Go Go.RowKit
section
variable {Y : Nat → Prop} {w w' : World} {gk : Nat} {b : Sv} {l : List UInt8} {s : Nat}
theorem DskP.adopt (h : DskP Y w gk b l s) : ∃ G, Gw 5 1 G b l.length (bvs l) ∧ Loc w (fun k => Old w k ∧ ¬ Y k) ((gk, 147, dskC b s) :: (G ++ [])) w := by
  obtain ⟨h1, h2, G, h3, h4⟩ := h; refine ⟨G, h3, ?_⟩
  have HL := (Loc.start w).adopt Y ((gk, 147, dskC b s) :: (G ++ [])) (fun x hx => by
    rcases List.mem_cons.1 hx with rfl | hx
    · exact ⟨h2, h1⟩
    · exact ⟨(h4 x (by simpa using hx)).2, (h4 x (by simpa using hx)).1⟩) (by
    obtain ⟨hl, ⟨rfl, rfl, hn⟩ | ⟨g, cap, tl, rfl, rfl, q1, q2, q3⟩⟩ := h3
    · simp
    · have h5 := (h4 (g, 5, bvs l ++ tl) (by simp)).1.ne h1 (show (5 : Nat) ≠ 147 by decide)
      refine List.pairwise_cons.2 ⟨fun x hx => ?_, by simp⟩; simp only [qu, List.mem_singleton] at hx; rw [hx]
      exact fun e => h5 e.symm)
  simpa using HL
theorem DskP.close {G : List (Nat × Nat × List Value)} {b' : Sv} {l' : List UInt8} {s' : Nat} (hY : Y gk) (hG : Gw 5 1 G b' l'.length (bvs l')) (H : Loc w (fun k => Old w k ∧ ¬ Y k) ((gk, 147, dskC b' s') :: (G ++ [])) w') :
    ∃ Y', DskP Y' w' gk b' l' s' ∧ Stp Y w Y' w' ∧ ∀ k, Y' k → Y k ∨ k < w'.heap.size := by
  refine ⟨fun k => Y k ∨ ∃ x ∈ G, x.1 = k, ⟨H.blk (.head _), .inl hY, G, hG, fun x hx => ⟨(H.own x (by simp [hx])).2, .inr ⟨x, hx, rfl⟩⟩⟩, ⟨?_, fun k hk => .inl hk, ?_⟩, ?_⟩
  · rintro k (hk | ⟨x, hx, rfl⟩)
    · exact .inl hk
    · have h1 := (H.own x (by simp [hx])).1
      by_cases hy : Y x.1
      · exact .inl hy
      · exact .inr (Nat.le_of_not_lt fun hlt => h1 ⟨hlt, hy⟩)
  · exact ⟨H.fr.os, H.fr.tape, H.fr.output, H.fr.size, fun k hk hn => H.fr.block k hk (fun n => n ⟨hk, hn⟩)⟩
  · rintro k (hk | ⟨x, hx, rfl⟩)
    · exact .inl hk
    · exact .inr (H.own x (by simp [hx])).2.lt
theorem xp4 (h : DskP Y w gk b l s) (A : Option Addr) (n c : Nat) (x : List UInt8) (hx : Tx w A n c x) (hA : ∀ ad, A = some ad → Old w ad.block ∧ ¬ Y ad.block) (hfit : l.length + n ≤ 1048576) :
    Calls Tryz.prog 78 #[.pointer (some ⟨gk, 0, none⟩), .slice A n c] w fun e w' => ∃ b' Y', e = .returned (.int .i64 0) ∧ DskP Y' w' gk b' (l ++ x) s ∧ Stp Y w Y' w' ∧ ∀ k, Y' k → Y k ∨ k < w'.heap.size := by
  have HH := hZ h; have HN := hZ h.n; have HX := hZ hx; have HA := hZ hA; obtain ⟨G, hG, HL⟩ := h.adopt; have HG := hZ hG; have HFT := hZ hfit; clear h hx hA hG hfit; obtain ⟨w0, rfl⟩ := eW w; go_enter Tryz.func78, Tryz.ntmps78; go_upto_region 0 with fail; refine X1j ?_; go_upto_region 1 with fail; refine Xdi ?_; intro K hK; refine Xdl ?_; rintro e w ⟨rfl, rfl⟩; refine X22 ?_; clear hK K; have HI : Hid ((b.n : Int) + (n : Int) = ((l.length + n : Nat) : Int)) := hZ (by rw [HN.out]; omega); have k8 : decide (((l.length + n : Nat) : Int) > 1048576) = false := by have := HFT.out; simp; omega
  go_upto_region 3 with fail; refine X13 ?_; refine Xdk ?_; refine X5 ?_; refine Xdm ?_; refine X5 ?_; refine X5k ?_; refine X14 ?_; refine X5k ?_; refine X5 ?_; refine xaa rfl _ (xay _ _ rfl _ _ _ rfl rfl HI.out (by have := HFT.out; omega)) ?_; refine X5 ?_; refine xaa rfl _ (xch (b := false) _ _ rfl _ _ rfl rfl k8) ?_; refine X21 ?_; go_upto_region 5 with fail; refine X31 ?_; refine Xdk ?_; refine X5 ?_; refine Xdm ?_; refine X42 ?_; intro K hK; refine xem sl25 el5 _ _ rfl [_] l.length b (bvs l) HG.out HL rfl A n c (bvs x) rfl (HL.rd HA.out HX.out.rd) (by rw [xae, HX.out.len]; omega) (xbo _) (by have := HFT.out; omega) (by have := HFT.out; omega) ?_; clear HL; intro b' G' w hG' HL; refine hK _ _ ?_; clear hK K; have HG' := hZ hG'; clear hG'; simp only [qm, qn] at HL; refine Xt ?_; refine X12 ?_; refine Xdk ?_; refine X5 ?_
  refine xa1 sc25 rfl _ _ rfl HL 0 gk 0 147 _ (dskC b' s) b'.v rfl rfl rfl rfl (show 0 < 3 by decide) rfl ?_; clear HL; intro w HL; simp only [qg] at HL; refine X16 ?_; go_upto_region 6 with fail; refine X1j ?_; go_wp2_with fail; go_ret
  obtain ⟨Y', h1, h2, h3⟩ := DskP.close (b' := b') (l' := l ++ x) HH.out.2.1 (by
    have := HG'.out
    rw [List.length_append, HX.out.len, xb2]; exact this) HL
  exact ⟨b', Y', rfl, h1, h2, h3⟩
theorem xge {P : Program} {w : World} {a : Act} {o : Oper} (x y : Operand) (ho : o.op = .call { callee := .builtin .min, args := #[x, y], argTypes := #[3, 3] }) (m n : Nat) (hx : a.eval x = .int .i64 (m : Int)) (hy : a.eval y = .int .i64 (n : Int)) (k : Nat) (hk : min m n = k) :
    (execOp a.eval o).run P w = .ok (.value (.int .i64 (k : Int))) w := by
  subst hk; unfold execOp; simp only [ho, resolve, invoke, builtin, Sem.run_bind, Sem.run_pure, Result.andThen_ok, List.map_toArray, qk, ql, hx, hy]; go_simp; omega
theorem dsk_cut (h : DskP Y w gk b l s) (n : Nat) (hn : n ≤ l.length) :
    Calls Tryz.prog 69 #[.pointer (some ⟨gk, 0, none⟩), .int .i64 (n : Int)] w fun e w' => e = .returned (.int .i64 0) ∧ DskP Y w' gk ⟨b.A, n, b.c⟩ (l.take n) (min s n) ∧ Fr (· = gk) w w' := by
  have HH := hZ h; have HN := hZ h.n; have HC := hZ h.cap; have HLN := hZ hn; clear h hn; obtain ⟨m, hm⟩ : ∃ m, min s n = m := ⟨_, rfl⟩; rw [hm]; have HM := hZ hm; clear hm; have HL := (Loc.start w).adopt (· = gk) [(gk, 147, dskC b s)] (fun x hx => by rw [List.mem_singleton.1 hx]; exact ⟨rfl, HH.out.1⟩) (by simp); simp only [qn] at HL; obtain ⟨w0, rfl⟩ := eW w; have k1 : decide ((n : Int) < 0) = false := by simp
  have k9 : decide ((n : Int) > (b.n : Int)) = false := by have := HN.out; have := HLN.out; simp; omega
  go_enter Tryz.func69, Tryz.ntmps69; go_upto_region 0 with fail; refine X1j ?_; go_upto_region 1 with fail; refine Xdi ?_; intro K hK; refine Xdl ?_; rintro e w ⟨rfl, rfl⟩; refine X22 ?_; clear hK K; go_upto_region 3 with fail; refine X11 ?_; refine Xdb ?_; refine X1m ?_; refine X1p ?_; refine xad rfl _ (xaf xg7 _ rfl _ rfl) ?_; refine X5 ?_; refine xad rfl _ (xah sc25 HL _ rfl _ _ rfl _ _ _ (.head _) rfl) ?_; refine X5 ?_; refine xad rfl _ (xcs Tryz.underlying25 _ rfl _ _ _ rfl) ?_; refine X5 ?_; refine xad rfl _ (xch (b := false) _ _ rfl _ _ rfl rfl k9) ?_; refine X2a ?_; have HX := HL.drew; have HL0 := HL.drop [] (List.nil_sublist _); clear HL; have HL := HL0; clear HL0; go_upto_region 5 with fail; refine rB (Loc.P HL) [] [5, 7, 11, 13, 16, 17, 18, 19] [0, 1, 2, 3, 4, 6, 8, 9, 10, 12] 10 ?_; refine X3u ?_; intro HL
  refine X3b ?_; refine Xdn ?_; refine X6s ?_; refine X3d ?_; refine Xdo ?_; refine X3g ?_; refine xdj [5, 11] (by kernel_rfl) ?_; refine X3 ?_; refine ⟨⟨rfl, ?_⟩, ⟨rfl, ?_⟩, trivial⟩
  · intro K hK
    refine Xdp ?_; refine X3w ?_; clear hK K; refine xdj [7, 11] (by kernel_rfl) ?_; refine X3 ?_; refine ⟨⟨rfl, ?_⟩, ⟨rfl, ?_⟩, trivial⟩
    · intro K hK
      refine xbg (xaw sl25 _ _ rfl b.A b.n b.c n .i64 rfl rfl (by have := HC.out.1; have := HN.out; have := HLN.out; omega)) ?_; refine X3w ?_; clear hK K; refine xca [11, 14, 15] 5 (by kernel_rfl) ?_; refine X9v ?_; intro K hK; refine Xdq ?_; refine X3w ?_; clear hK K; refine Xdn ?_; refine Xdr ?_; refine X3 ?_; refine ⟨⟨rfl, ?_⟩, ⟨rfl, ?_⟩, trivial⟩
      · intro K hK
        refine Xds ?_; refine X3w ?_; clear hK K; refine Xdt ?_; intro K hK; refine Xdu ?_; clear HX HL; intro w HX; simp only [qg] at HX; refine Xdy ?_; clear hK K; intro HL K hK; clear HX HL; intro w HX; simp only [qg] at HX; refine Xe0 ?_; clear hK K; intro HL; go_upto_region 6 with fail; refine X1j ?_; go_wp2_with fail; go_ret; refine Xe1 ?_; intro hf; exact ⟨rfl, HH.out.cut n HLN.out m hf (HX.blk (.head _)), hf⟩
      · intro K hK
        refine Xdu ?_; clear HX HL; intro w HX; simp only [qg] at HX; refine Xdz ?_; clear hK K; intro HL; refine Xe2 ?_; intro K hK; refine Xds ?_; refine Xdx ?_; clear hK K; intro K hK; clear HX HL; intro w HX; simp only [qg] at HX; refine Xe0 ?_; clear hK K; intro HL; go_upto_region 6 with fail; refine X1j ?_; go_wp2_with fail; go_ret; refine Xe1 ?_; intro hf; exact ⟨rfl, HH.out.cut n HLN.out m hf (HX.blk (.head _)), hf⟩
    · intro K hK
      refine Xdq ?_; refine X3w ?_; clear hK K; refine xdj [7, 13] (by kernel_rfl) ?_; refine X3 ?_; refine ⟨⟨rfl, ?_⟩, ⟨rfl, ?_⟩, trivial⟩
      · intro K hK
        refine xbg (xaw sl25 _ _ rfl b.A b.n b.c n .i64 rfl rfl (by have := HC.out.1; have := HN.out; have := HLN.out; omega)) ?_; refine X3w ?_; clear hK K; refine xca [14, 15] 5 (by kernel_rfl) ?_; refine X3 ?_; refine Xdn ?_; refine Xdr ?_; refine X3 ?_; refine ⟨⟨rfl, ?_⟩, ⟨rfl, ?_⟩, trivial⟩
        · intro K hK
          refine Xds ?_; refine X3w ?_; clear hK K; refine Xdt ?_; intro K hK; refine Xdu ?_; clear HX HL; intro w HX; simp only [qg] at HX; refine Xdy ?_; clear hK K; intro HL K hK; clear HX HL; intro w HX; simp only [qg] at HX; refine Xe0 ?_; clear hK K; intro HL; go_upto_region 6 with fail; refine X1j ?_; go_wp2_with fail; go_ret; refine Xe1 ?_; intro hf; exact ⟨rfl, HH.out.cut n HLN.out m hf (HX.blk (.head _)), hf⟩
        · intro K hK
          refine Xdu ?_; clear HX HL; intro w HX; simp only [qg] at HX; refine Xdz ?_; clear hK K; intro HL; refine Xe2 ?_; intro K hK; refine Xds ?_; refine Xdx ?_; clear hK K; intro K hK; clear HX HL; intro w HX; simp only [qg] at HX; refine Xe0 ?_; clear hK K; intro HL; go_upto_region 6 with fail; refine X1j ?_; go_wp2_with fail; go_ret; refine Xe1 ?_; intro hf; exact ⟨rfl, HH.out.cut n HLN.out m hf (HX.blk (.head _)), hf⟩
      · intro K hK
        refine Xds ?_; refine X3w ?_; clear hK K; refine xca [7, 14, 15, 16, 17, 18, 19] 0 (by kernel_rfl) ?_; refine X9v ?_; intro K hK; refine xbg (xaw sl25 _ _ rfl b.A b.n b.c n .i64 rfl rfl (by have := HC.out.1; have := HN.out; have := HLN.out; omega)) ?_; refine X3w ?_; clear hK K; refine Xdn ?_; refine Xf ?_; intro K hK; refine Xdu ?_; clear HX HL; intro w HX; simp only [qg] at HX; refine Xdy ?_; clear hK K; intro HL K hK; clear HX HL; intro w HX; simp only [qg] at HX; refine Xe0 ?_; clear hK K; intro HL; go_upto_region 6 with fail; refine X1j ?_; go_wp2_with fail; go_ret; refine Xe1 ?_; intro hf; exact ⟨rfl, HH.out.cut n HLN.out m hf (HX.blk (.head _)), hf⟩
  · intro K hK
    refine Xdq ?_; refine X3w ?_; clear hK K; refine xdj [5, 13] (by kernel_rfl) ?_; refine X3 ?_; refine ⟨⟨rfl, ?_⟩, ⟨rfl, ?_⟩, trivial⟩
    · intro K hK
      refine Xdp ?_; refine X3w ?_; clear hK K; refine xdj [7, 13] (by kernel_rfl) ?_; refine X3 ?_; refine ⟨⟨rfl, ?_⟩, ⟨rfl, ?_⟩, trivial⟩
      · intro K hK
        refine xbg (xaw sl25 _ _ rfl b.A b.n b.c n .i64 rfl rfl (by have := HC.out.1; have := HN.out; have := HLN.out; omega)) ?_; refine X3w ?_; clear hK K; refine xca [14, 15] 5 (by kernel_rfl) ?_; refine X3 ?_; refine Xdn ?_; refine Xdr ?_; refine X3 ?_; refine ⟨⟨rfl, ?_⟩, ⟨rfl, ?_⟩, trivial⟩
        · intro K hK
          refine Xds ?_; refine X3w ?_; clear hK K; refine Xdt ?_; intro K hK; refine Xdu ?_; clear HX HL; intro w HX; simp only [qg] at HX; refine Xdy ?_; clear hK K; intro HL K hK; clear HX HL; intro w HX; simp only [qg] at HX; refine Xe0 ?_; clear hK K; intro HL; go_upto_region 6 with fail; refine X1j ?_; go_wp2_with fail; go_ret; refine Xe1 ?_; intro hf; exact ⟨rfl, HH.out.cut n HLN.out m hf (HX.blk (.head _)), hf⟩
        · intro K hK
          refine Xdu ?_; clear HX HL; intro w HX; simp only [qg] at HX; refine Xdz ?_; clear hK K; intro HL; refine Xe2 ?_; intro K hK; refine Xds ?_; refine Xdx ?_; clear hK K; intro K hK; clear HX HL; intro w HX; simp only [qg] at HX; refine Xe0 ?_; clear hK K; intro HL; go_upto_region 6 with fail; refine X1j ?_; go_wp2_with fail; go_ret; refine Xe1 ?_; intro hf; exact ⟨rfl, HH.out.cut n HLN.out m hf (HX.blk (.head _)), hf⟩
      · intro K hK
        refine Xds ?_; refine X3w ?_; clear hK K; refine xca [7, 14, 15, 16, 17, 18, 19] 0 (by kernel_rfl) ?_; refine X9v ?_; intro K hK; refine xbg (xaw sl25 _ _ rfl b.A b.n b.c n .i64 rfl rfl (by have := HC.out.1; have := HN.out; have := HLN.out; omega)) ?_; refine X3w ?_; clear hK K; refine Xdn ?_; refine Xf ?_; intro K hK; refine Xdu ?_; clear HX HL; intro w HX; simp only [qg] at HX; refine Xdy ?_; clear hK K; intro HL K hK; clear HX HL; intro w HX; simp only [qg] at HX; refine Xe0 ?_; clear hK K; intro HL; go_upto_region 6 with fail; refine X1j ?_; go_wp2_with fail; go_ret; refine Xe1 ?_; intro hf; exact ⟨rfl, HH.out.cut n HLN.out m hf (HX.blk (.head _)), hf⟩
    · intro K hK
      refine Xds ?_; refine X3w ?_; clear hK K; refine xca [5, 7, 14, 15, 16, 17, 18, 19] 0 (by kernel_rfl) ?_; refine X9v ?_; intro K hK; refine Xdp ?_; refine X3x ?_; clear hK K; intro K hK; refine xbg (xaw sl25 _ _ rfl b.A b.n b.c n .i64 rfl rfl (by have := HC.out.1; have := HN.out; have := HLN.out; omega)) ?_; refine X3w ?_; clear hK K; refine Xdn ?_; refine Xf ?_; intro K hK; refine Xdu ?_; clear HX HL; intro w HX; simp only [qg] at HX; refine Xdy ?_; clear hK K; intro HL K hK; clear HX HL; intro w HX; simp only [qg] at HX; refine Xe0 ?_; clear hK K; intro HL; go_upto_region 6 with fail; refine X1j ?_; go_wp2_with fail; go_ret; refine Xe1 ?_; intro hf; exact ⟨rfl, HH.out.cut n HLN.out m hf (HX.blk (.head _)), hf⟩
theorem xs1 (h : DskP Y w gk b l s) (hs : s ≤ l.length) (n : Nat) (hn : s + n ≤ l.length) (hl : l.length ≤ 140737488351232) :
    Calls Tryz.prog 25 #[.pointer (some ⟨gk, 0, none⟩), .int .i64 (n : Int)] w fun e w' => e = .returned (.int .i64 0) ∧ DskP Y w' gk ⟨b.A, s + n, b.c⟩ (l.take (s + n)) (s + n) ∧ Fr (· = gk) w w' := by
  have HH := hZ h; have HN := hZ h.n; have HC := hZ h.cap; have HLN := hZ hn; have HSN := hZ hs; have HBG := hZ hl; clear h hn hs hl; have HL := (Loc.start w).adopt (· = gk) [(gk, 147, dskC b s)] (fun x hx => by rw [List.mem_singleton.1 hx]; exact ⟨rfl, HH.out.1⟩) (by simp); simp only [qn] at HL; obtain ⟨w0, rfl⟩ := eW w; have k1 : decide ((n : Int) < 0) = false := by simp
  have HI : Hid ((b.n : Int) - (s : Int) = ((b.n - s : Nat) : Int)) := hZ (by have := HN.out; have := HSN.out; omega); have k14 : decide ((n : Int) > ((b.n - s : Nat) : Int)) = false := by have := HN.out; have := HLN.out; simp; omega
  have HI2 : Hid ((s : Int) + (n : Int) = ((s + n : Nat) : Int)) := hZ (by omega); go_enter Tryz.func25, Tryz.ntmps25; go_upto_region 0 with fail; refine X1j ?_; go_upto_region 1 with fail; refine Xdi ?_; intro K hK; refine Xdl ?_; rintro e w ⟨rfl, rfl⟩; refine X22 ?_; clear hK K; go_upto_region 3 with fail; refine rB (Loc.P HL) [] [] [0, 1, 2, 3, 4, 5, 6, 7, 8, 9, 10, 11, 12, 13, 14, 15] 0 ?_; refine X3c ?_; intro HL; refine xab rfl rfl HL (fun W hW => xbm (b := false) _ _ rfl _ _ rfl rfl k1) ?_; refine X89 ?_; refine Xdn ?_; refine X5 ?_; refine xab rfl rfl HL (fun W hW => xah sc25 hW _ rfl _ _ rfl _ _ _ (.head _) rfl) ?_; refine X5 ?_; refine xab rfl rfl HL (fun W hW => xcs Tryz.underlying25 _ rfl _ _ _ rfl) ?_; refine X3h ?_; refine Xdo ?_; refine X5 ?_; refine xab rfl rfl HL (fun W hW => xah sc3 hW _ rfl _ _ rfl _ _ _ (.head _) rfl) ?_; refine X5 ?_
  refine xab rfl rfl HL (fun W hW => xa7 _ _ rfl _ _ _ rfl rfl HI.out (by have := HN.out; have := HBG.out; omega)) ?_; refine X5 ?_; refine xab rfl rfl HL (fun W hW => xch (b := false) _ _ rfl _ _ rfl rfl k14) ?_; refine X3k ?_; go_upto_region 5 with fail; refine X13 ?_; refine Xdj ?_; refine Xe3 ?_; refine X14 ?_; refine xaa rfl _ (xay _ _ rfl _ _ _ rfl rfl HI2.out (by have := HLN.out; have := HBG.out; omega)) ?_; refine X15 ?_; refine Xdj ?_; refine X5 ?_; refine xa1 sc3 rfl _ _ rfl HL 0 gk 1 147 _ (dskC b (s + n)) (.int .i64 ((s + n : Nat) : Int)) rfl rfl rfl rfl (show 1 < 3 by decide) rfl ?_; clear HL; intro w HL; simp only [qg] at HL; refine X16 ?_; have HX := HL.drew; have HL0 := HL.drop [] (List.nil_sublist _); clear HL; have HL := HL0; clear HL0; go_upto_region 6 with fail
  refine rB (Loc.P HL) [] [4, 8, 9, 10, 11, 12] [0, 1, 2, 3, 5, 6, 7] 6 ?_; refine X3u ?_; intro HL; refine Xdn ?_; refine X3h ?_; refine Xdo ?_; refine X5 ?_; refine xdj [4, 8] (by kernel_rfl) ?_; refine X3 ?_; refine ⟨⟨rfl, ?_⟩, ⟨rfl, ?_⟩, trivial⟩
  · intro K hK
    refine Xdp ?_; refine X3w ?_; clear hK K; refine xca [8, 9, 10, 11, 12] 0 (by kernel_rfl) ?_; refine X9v ?_; intro K hK; refine Xdq ?_; refine X3x ?_; clear hK K; intro K hK; refine xbg (xaw sl25 _ _ rfl b.A b.n b.c (s + n) .i64 rfl rfl (by have := HC.out.1; have := HN.out; have := HLN.out; omega)) ?_; refine Xdw ?_; clear hK K; intro K hK; refine xbg (xaf xg7 _ rfl _ rfl) ?_; refine X3x ?_; clear hK K; intro K hK; refine Xe4 ?_; clear HX HL; intro w HX; simp only [qg] at HX; refine Xe0 ?_; clear hK K; intro HL; go_upto_region 7 with fail; refine X1j ?_; go_wp2_with fail; go_ret; refine Xe1 ?_; intro hf; exact ⟨rfl, HH.out.cut (s + n) HLN.out (s + n) hf (HX.blk (.head _)), hf⟩
  · intro K hK
    refine Xdq ?_; refine X3w ?_; clear hK K; refine xca [4, 9, 10, 11, 12] 0 (by kernel_rfl) ?_; refine X9v ?_; intro K hK; refine Xdp ?_; refine X3x ?_; clear hK K; intro K hK; refine xbg (xaw sl25 _ _ rfl b.A b.n b.c (s + n) .i64 rfl rfl (by have := HC.out.1; have := HN.out; have := HLN.out; omega)) ?_; refine Xdw ?_; clear hK K; intro K hK; refine xbg (xaf xg7 _ rfl _ rfl) ?_; refine X3x ?_; clear hK K; intro K hK; refine Xe4 ?_; clear HX HL; intro w HX; simp only [qg] at HX; refine Xe0 ?_; clear hK K; intro HL; go_upto_region 7 with fail; refine X1j ?_; go_wp2_with fail; go_ret; refine Xe1 ?_; intro hf; exact ⟨rfl, HH.out.cut (s + n) HLN.out (s + n) hf (HX.blk (.head _)), hf⟩
end
theorem OwnB.sl {w : World} {base : Nat} {v : Value} {l : List UInt8} (h : OwnB w base 5 v l) : Sl1 w v l := by
  obtain ⟨A, c, rfl, h1, h2, h3⟩ := h.rd; exact ⟨A, c, rfl, h1, h3⟩
theorem OwnB.svv {w : World} {base : Nat} {v : Value} {l : List UInt8} (h : OwnB w base 5 v l) : ∃ s : Sv, v = s.v := by
  obtain ⟨A, c, rfl, h1, h2, h3⟩ := h.rd; exact ⟨⟨A, l.length, c⟩, rfl⟩
def rw1 (e : RE) : List UInt8 := e.k ++ ((if e.r.gone then [1] else [0]) ++ (be 2 (if e.r.gone then [] else e.v).length ++ (if e.r.gone then [] else e.v)))
def xc5 (n : Nat) (rs : List RE) (i : Nat) : List UInt8 := be 2 n ++ ((rs.take i).map rw1).flatten
def xa5 (rs : List RE) : List UInt8 := xc5 rs.length rs rs.length
theorem xli (n : Nat) (rs : List RE) (i : Nat) (h : i < rs.length) : xc5 n rs (i + 1) = xc5 n rs i ++ rw1 rs[i] := by
  unfold xc5; rw [List.take_succ_eq_append_getElem h, List.map_append, List.flatten_append]; simp only [qk, ql, List.flatten_cons, List.flatten_nil, qu, qo]
theorem xq9 {e : RE} (hk : e.k.length = 32) (hv : e.r.gone = false → e.v.length ≤ 1024) : (rw1 e).length ≤ 1059 := by
  unfold rw1
  cases hg : e.r.gone with
  | true => simp [xaq, hk]
  | false => have := hv hg; simp [xaq, hk]; omega
theorem xhl (n : Nat) (rs : List RE) (hk : ∀ e ∈ rs, e.k.length = 32) (hv : ∀ e ∈ rs, e.r.gone = false → e.v.length ≤ 1024) : ∀ i, i ≤ rs.length → (xc5 n rs i).length ≤ 2 + 1059 * i
  | 0, _ => by simp [xc5, xaq]
  | i + 1, h => by
    have h1 := xhl n rs hk hv i (by omega); rw [xli n rs i (by omega), List.length_append]; have := xq9 (hk _ (List.getElem_mem (h := (by omega : i < rs.length)))) (hv _ (List.getElem_mem (h := (by omega : i < rs.length)))); omega
theorem told_ok {D : Nat → Prop} {w : World} (A : Option Addr) (n c : Nat) (rs : List RE) (hW : RawT D w A n c rs) (hn : n ≤ 11) (hk : ∀ e ∈ rs, e.k.length = 32) (hv : ∀ e ∈ rs, e.r.gone = false → e.v.length ≤ 1024) :
    Calls Tryz.prog 75 #[.slice A n c] w fun e w' => ∃ v, e = .returned v ∧ OwnB w' w.heap.size 5 v (xa5 rs) ∧ Below w.heap.size w w' := by
  have HW := hZ hW; have HEL := hZ hW.len; have HK := hZ hk; have HV := hZ hv; have HTL := hZ (xhl n rs hk hv); clear hW hk hv; have HL := Loc.start w; obtain ⟨w0, rfl⟩ := eW w; go_enter Tryz.func75, Tryz.ntmps75; go_upto_region 0 with fail; refine X1j ?_; go_upto_region 1 with fail; refine Xe5 ?_; refine X4z ?_; intro K hK; refine xac cf101 rfl _ rfl ?_; refine X1y ?_; (with_reducible refine (xjv n (by omega) _).mono ?_); rintro e w ⟨v2, rfl, ho2, hb2⟩; have HB2 := hZ (HL.below.trans (hb2.mono HL.below.size)); have HO2 : Hid (OwnB w w0.heap.size 5 v2 (xc5 n rs 0)) := hZ (by simpa [xc5] using ho2.mono HL.below.size); clear HL hb2 ho2; have HL := Loc.start w; refine X7d ?_; clear hK K; go_upto_region 2 with fail; refine X7j ?_; go_upto_region 3 with fail; refine Xe5 ?_; refine X1e ?_; go_wp2_with fail; clear HL
  go_loopw [5, 21] (fun v z wr => ∃ i : Nat, i ≤ n ∧ OwnB wr w0.heap.size 5 v (xc5 n rs i) ∧ z = .int .i64 (i : Int) ∧ Below w0.heap.size w0 wr) (fun _ z _ => (n - intOf z).toNat)
  case atStart => exact ⟨0, Nat.zero_le _, HO2.out, rfl, HB2.out⟩
  case round => as_aux_lemma =>
    clear HO2 HB2; obtain ⟨i, hi, ho, rfl, hb0⟩ := hrel; obtain ⟨so, rfl⟩ := ho.svv; have HB0 := hZ hb0; have HO : Hid (OwnB wr w0.heap.size 5 so.v (xc5 n rs i) ∧ (xc5 n rs i).length ≤ 2 + 1059 * i) := hZ ⟨ho, HTL.out i (by rw [HEL.out]; exact hi)⟩; clear ho hb0; have HL := Loc.start wr; obtain ⟨w, rfl⟩ := eW wr; by_cases hlt : i < n
    · have k5 : decide ((i : Int) < (n : Int)) = true := by simp; omega
      refine X9k ?_; intro HI1; have hil : i < rs.length := by rw [HEL.out]; exact hlt
      obtain ⟨ad, hA, hrd0⟩ := (HW.out.below HB0.out).at_ i hil; refine X9b ?_; intro HSV; have HRD : Hid (Rd w (some (ad.add (i * 3))) rs[i].r.cells) := hZ hrd0; have KT := hZ ((HW.out.below HB0.out).kt _ (List.getElem_mem hil)); have VT := hZ ((HW.out.below HB0.out).vt _ (List.getElem_mem hil)); have HKL := hZ (HK.out _ (List.getElem_mem hil)); have HV2 := hZ (HV.out _ (List.getElem_mem hil)); have HTN := hZ (xli n rs i hil); clear hA hrd0; obtain ⟨x, hx⟩ : ∃ x, rs[i] = x := ⟨_, rfl⟩; rw [hx] at HRD KT VT HKL HV2 HTN; clear hx; obtain ⟨⟨key, gone, val⟩, k, v⟩ := x; replace KT : Hid (Tx w key.A key.n key.c k) := KT; replace VT : Hid (Tx w val.A val.n val.c v) := VT; replace HKL : Hid (k.length = 32) := HKL; replace HV2 : Hid (gone = false → v.length ≤ 1024) := HV2; replace HRD : Hid (Rd w (some (ad.add (i * 3))) (⟨key, gone, val⟩ : Rw).cells) := HRD; obtain ⟨w1, rfl⟩ := eW w
      go_upto_region 4 with fail; refine Xs ?_; refine Xd4 ?_; refine X21 ?_; go_upto_region 5 with fail; refine Xs ?_; refine xaa rfl _ (xbf sl73 (.tmp 19) _ rfl ad n c i .i64 HSV.out rfl hlt) ?_; refine X5 ?_; refine xaa rfl _ (xbx ag80 _ rfl _ (⟨key, gone, val⟩ : Rw).cells rfl (HL.rdO HRD.out) (by omega) (Rw.len _)) ?_; refine X5 ?_; refine xai zr80w rfl rfl HL ?_; clear HL; intro g7 w HL; refine Xd5 ?_; refine X35 ?_; clear HL; intro w HL; cases gone
      · have HV3 : Hid (val.n ≤ 1024) := hZ (by have h1 := HV2.out rfl; have h2 := VT.out.len; have h3 : v.length = val.n := h2; omega)
        go_upto_region 6 with fail; refine Xs ?_; refine Xd9 ?_; refine X5 ?_; refine Xe6 ?_; go_upto_region 7 with fail; refine Xs ?_; refine Xd8 ?_; refine X5 ?_; refine Xe7 ?_; go_upto_region 9 with fail; refine X11 ?_; refine xaa rfl _ (xav Tryz.underlying25 _ rfl ⟨val.A, val.n, val.c⟩ val.n rfl rfl) ?_; refine X4z ?_; intro K hK; refine xac cf101 rfl _ rfl ?_; refine X1y ?_; (with_reducible refine (xjv val.n (by have := HV3.out; omega) _).mono ?_); rintro e w ⟨v16, rfl, ho16, hb16⟩; obtain ⟨G6, s6, rfl, hG6, HL2⟩ := HL.took hb16 ho16; have HG6 := hZ hG6; clear HL hb16 ho16 hG6; have HL := HL2; clear HL2; simp only [qm, qn] at HL; refine X7d ?_; clear hK K; go_upto_region 10 with fail; refine X11 ?_; refine Xd6 ?_; refine X5 ?_; refine Xd7 ?_; refine X14 ?_; refine xcm sl25 el5 rfl _ rfl HL (.int .u8 0) rfl rfl ?_; clear HL; intro g39 w HL; refine Xt ?_
        refine X10 ?_; refine X8b ?_; intro K hK
        refine xcx sl50 el25 5 _ rfl HL [so.v, key.v, .slice (some ⟨g39, 0, none⟩) 1 1, s6.v, val.v] (fun u hu => by
          simp only [List.mem_cons, List.not_mem_nil, or_false] at hu
          rcases hu with rfl | rfl | rfl | rfl | rfl <;> rfl) rfl (by decide) (by decide) (by simp [Act.eval, Sv.v, Sv.nil]) ?_
        clear HL; intro g42 w HL; refine hK _ _ ?_; clear hK K
        have HA : Hid (AllRd w [so.v, key.v, .slice (some ⟨g39, 0, none⟩) 1 1, s6.v, val.v] [xc5 n rs i, k, [0], be 2 val.n, v]) := hZ (by
          refine AllRd.cons (HO.out.1.sl.below HL.below) (AllRd.cons ⟨key.A, key.c, by rw [KT.out.len]; rfl, by rw [KT.out.len]; exact KT.out.cap, (KT.out.below HL.below).rd⟩ (AllRd.cons ⟨some ⟨g39, 0, none⟩, 1, rfl, by simp, Rd.of_blk0 (es := []) (by simpa [bvs, bv] using HL.blk (.tail _ (.head _)))⟩ (AllRd.cons ⟨s6.A, s6.c, ?_, ?_, ?_⟩ (AllRd.cons ?_ (AllRd.nil _)))))
          · have := HG6.out.len
            rw [← this]; rfl
          · have h1 := HG6.out.len
            have h2 := HG6.out.cap; rw [← h1]; exact h2.1
          · exact HG6.out.rd (L0 := [_, _, _]) HL
          · exact ⟨val.A, val.c, by rw [VT.out.len]; rfl, by rw [VT.out.len]; exact VT.out.cap, (VT.out.below HL.below).rd⟩)
        have HJ : Hid (Calls Tryz.prog 79 #[.slice (some ⟨g42, 0, none⟩) 5 5] w fun e w' => ∃ v, e = .returned v ∧ OwnB w' w.heap.size 5 v (xc5 n rs (i + 1)) ∧ Below w.heap.size w w') := hZ (by
          have hj := xjf (some ⟨g42, 0, none⟩) 5 5 _ _ w rfl (Rd.of_blk0 (es := []) (by simpa using HL.blk (.head _))) HA.out (by simp) (by
            have h1 := HO.out.2; have h2 := HKL.out; simp only [List.flatten_cons, List.flatten_nil, qu, qp, qr, qs, xaq, h2]
            have h3 := HV3.out; have h4 := VT.out.len; omega)
          have he : (([xc5 n rs i, k, [0], be 2 val.n, v] : List (List UInt8))).flatten = xc5 n rs (i + 1) := by
            rw [HTN.out]; simp only [List.flatten_cons, List.flatten_nil, qu, rw1, Bool.false_eq_true, if_false, qs]; rw [VT.out.len]
          rwa [he] at hj)
        clear HA; refine Xaw ?_; intro K hK; refine xac cf79 rfl _ rfl ?_; refine Xe8 ?_; rintro e w ⟨vo, rfl, hov, hb⟩; have HB := hZ (HL.below.trans (hb.mono HL.below.size)); have hov2 := hov.mono HL.below.size; clear HL hb hov; have HL := Loc.start w; refine X2n ?_; clear hK K; go_upto_region 11 with fail; refine Xc3 ?_; go_wp2_with fail; go_roundw
        case rel => exact ⟨i + 1, by omega, hov2.mono HB0.out.size, rfl, HB0.out.trans (HB.out.mono HB0.out.size)⟩
        case measure => simp [intOf] <;> omega
      ·
        go_upto_region 6 with fail; refine Xs ?_; refine Xd9 ?_; refine X5 ?_; refine Xe6 ?_; go_upto_region 7 with fail; refine Xs ?_; refine Xd8 ?_; refine X5 ?_; refine Xe7 ?_; go_upto_region 8 with fail; refine X2z ?_; go_upto_region 9 with fail; refine X11 ?_; refine xaa rfl _ (xav Tryz.underlying25 _ rfl ⟨none, 0, 0⟩ 0 rfl rfl) ?_; refine X4z ?_; intro K hK; refine xac cf101 rfl _ rfl ?_; refine X1y ?_; (with_reducible refine (xjv 0 (by decide) _).mono ?_); rintro e w ⟨v16, rfl, ho16, hb16⟩; obtain ⟨G6, s6, rfl, hG6, HL2⟩ := HL.took hb16 ho16; have HG6 := hZ hG6; clear HL hb16 ho16 hG6; have HL := HL2; clear HL2; simp only [qm, qn] at HL; refine X7d ?_; clear hK K; go_upto_region 10 with fail; refine X11 ?_; refine Xd6 ?_; refine X5 ?_; refine Xd7 ?_; refine X14 ?_; refine xcm sl25 el5 rfl _ rfl HL (.int .u8 1) rfl rfl ?_; clear HL; intro g39 w HL
        refine Xt ?_; refine X10 ?_; refine X8b ?_; intro K hK
        refine xcx sl50 el25 5 _ rfl HL [so.v, key.v, .slice (some ⟨g39, 0, none⟩) 1 1, s6.v, Sv.nil.v] (fun u hu => by
          simp only [List.mem_cons, List.not_mem_nil, or_false] at hu
          rcases hu with rfl | rfl | rfl | rfl | rfl <;> rfl) rfl (by decide) (by decide) (by simp [Act.eval, Sv.v, Sv.nil]) ?_
        clear HL; intro g42 w HL; refine hK _ _ ?_; clear hK K
        have HA : Hid (AllRd w [so.v, key.v, .slice (some ⟨g39, 0, none⟩) 1 1, s6.v, Sv.nil.v] [xc5 n rs i, k, [1], be 2 0, []]) := hZ (by
          refine AllRd.cons (HO.out.1.sl.below HL.below) (AllRd.cons ⟨key.A, key.c, by rw [KT.out.len]; rfl, by rw [KT.out.len]; exact KT.out.cap, (KT.out.below HL.below).rd⟩ (AllRd.cons ⟨some ⟨g39, 0, none⟩, 1, rfl, by simp, Rd.of_blk0 (es := []) (by simpa [bvs, bv] using HL.blk (.tail _ (.head _)))⟩ (AllRd.cons ⟨s6.A, s6.c, ?_, ?_, ?_⟩ (AllRd.cons ?_ (AllRd.nil _)))))
          · have := HG6.out.len
            rw [← this]; rfl
          · have h1 := HG6.out.len
            have h2 := HG6.out.cap; rw [← h1]; exact h2.1
          · exact HG6.out.rd (L0 := [_, _, _]) HL
          · exact ⟨none, 0, rfl, by simp, Rd.nil _ _⟩)
        have HJ : Hid (Calls Tryz.prog 79 #[.slice (some ⟨g42, 0, none⟩) 5 5] w fun e w' => ∃ v, e = .returned v ∧ OwnB w' w.heap.size 5 v (xc5 n rs (i + 1)) ∧ Below w.heap.size w w') := hZ (by
          have hj := xjf (some ⟨g42, 0, none⟩) 5 5 _ _ w rfl (Rd.of_blk0 (es := []) (by simpa using HL.blk (.head _))) HA.out (by simp) (by
            have h1 := HO.out.2; have h2 := HKL.out; simp only [List.flatten_cons, List.flatten_nil, qu, qp, qr, qs, xaq, h2]
            omega)
          have he : (([xc5 n rs i, k, [1], be 2 0, []] : List (List UInt8))).flatten = xc5 n rs (i + 1) := by
            rw [HTN.out]; simp only [List.flatten_cons, List.flatten_nil, qu, rw1, if_true, qs]
          rwa [he] at hj)
        clear HA; refine Xaw ?_; intro K hK; refine xac cf79 rfl _ rfl ?_; refine Xe8 ?_; rintro e w ⟨vo, rfl, hov, hb⟩; have HB := hZ (HL.below.trans (hb.mono HL.below.size)); have hov2 := hov.mono HL.below.size; clear HL hb hov; have HL := Loc.start w; refine X2n ?_; clear hK K; go_upto_region 11 with fail; refine Xc3 ?_; go_wp2_with fail; go_roundw
        case rel => exact ⟨i + 1, by omega, hov2.mono HB0.out.size, rfl, HB0.out.trans (HB.out.mono HB0.out.size)⟩
        case measure => simp [intOf] <;> omega
    · have k5 : decide ((i : Int) < (n : Int)) = false := by simp; omega
      have hin : i = n := by omega
      subst hin; go_upto_region 4 with fail; refine Xs ?_; refine Xd4 ?_; refine X21 ?_; go_upto_region 12 with fail; refine X7j ?_; go_wp2_with fail; go_ret; refine ⟨so.v, rfl, ?_, HB0.out⟩; have := HO.out.1; unfold xa5; rw [HEL.out]; exact this
def sumD (l : List UInt8) (r : D32) : D32 := ⟨shaL (6 :: (l ++ r.l)), xbz _⟩
theorem xj7 {w : World} (A : Option Addr) (n c : Nat) (l : List UInt8) (root : D32) (h : Tx w A n c l) (hn : n ≤ 1099511627776) : Calls Tryz.prog 76 #[.slice A n c, root.a] w fun e w' => e = .returned (sumD l root).a ∧ Below w.heap.size w w' := by
  have HT := hZ h; have HNL := hZ hn; clear h hn; have HL := Loc.start w; obtain ⟨w0, rfl⟩ := eW w; go_enter Tryz.func76, Tryz.ntmps76; go_upto_region 0 with fail; refine X39 ?_; clear HL; intro g3 w HL; refine X5 ?_; refine xai zr23 rfl rfl HL ?_; clear HL; intro g4 w HL; refine X21 ?_; go_upto_region 1 with fail; refine X11 ?_; refine xaa rfl _ (xcl ia25 _ rfl g3 0 rfl) ?_; refine X4z ?_; intro K hK
  refine xcx sl50 el25 2 _ rfl HL [.slice A n c, .slice (some ⟨g3, 0, none⟩) 32 32] (fun u hu => by
    simp only [List.mem_cons, List.not_mem_nil, or_false] at hu
    rcases hu with rfl | rfl <;> rfl) rfl (by decide) (by decide) (by simp [Act.eval]) ?_
  clear HL; intro g7 w HL; refine hK _ _ ?_; clear hK K; have HA : Hid (AllRd w [.slice A n c, .slice (some ⟨g3, 0, none⟩) 32 32] [l, root.l]) := hZ (AllRd.cons ⟨A, c, by rw [HT.out.len], by rw [HT.out.len]; exact HT.out.cap, (HT.out.below HL.below).rd⟩ (AllRd.cons ⟨some ⟨g3, 0, none⟩, 32, by rw [root.h], by rw [root.h]; exact Nat.le_refl _, Rd.of_blk0 (es := []) (by rw [List.append_nil]; exact HL.blk (.tail _ (.tail _ (.head _))))⟩ (AllRd.nil _)))
  have HJ : Hid (Calls Tryz.prog 97 #[.int .u8 6, .slice (some ⟨g7, 0, none⟩) 2 2] w fun e w' => e = .returned (sumD l root).a ∧ Below w.heap.size w w') := hZ (by
    have hj := xfn 6 6 rfl (some ⟨g7, 0, none⟩) 2 2 _ _ w rfl (Rd.of_blk0 (es := []) (by rw [List.append_nil]; exact HL.blk (.head _))) HA.out (fun i v hv => by
      match i, hv with
      | 0, hv => cases hv; exact HT.out.max
      | 1, hv => cases hv; show 32 ≤ maxLen; unfold maxLen; omega) (by decide) (by
        have h1 := HT.out.len; have h2 := HNL.out; have h3 := root.h; simp only [List.flatten_cons, List.flatten_nil, qu, qp]
        omega)
    have he : (([l, root.l] : List (List UInt8))).flatten = l ++ root.l := by simp
    rw [he] at hj
    exact hj)
  refine Xaw ?_; intro K hK; refine xac cf97 rfl _ rfl ?_; refine Xe8 ?_; refine X4x ?_; clear hK K; intro w HL; refine xbn ag23 rfl _ _ rfl HL 1 g4 23 _ (sumD l root).c rfl rfl rfl (D32.cl _) (D32.cl _) (D32.c1 _) ?_; refine X2u ?_; clear HL; intro w HL; go_wp2_with fail; refine Xa ?_; refine X4w ?_; exact ⟨rfl, HL.below⟩
theorem xj8 {P : Program} {fn : Func} {R : Ending → World → Prop} {chain : List PanicEntry} {a : Act} {w : World} (h1 : a.defers = []) (h2 : R (.panicked chain) w) : bodyPost P fn R (.panic chain) a w := ⟨h1, h2⟩
theorem must_yes (w : World) : Calls Tryz.prog 179 #[.bool true] w fun e w' => e = .returned (.tuple #[]) ∧ w = w' := by
  go_enter Tryz.func179, Tryz.ntmps179
  go_wp2
  go_end0
  exact ⟨rfl, rfl⟩
def malV : Value := .iface 281 (.agg #[])
theorem xra (w : World) : Calls Tryz.prog 179 #[.bool false] w fun e w' => e = .panicked [{ v := malV, recovered := false }] ∧ w = w' := by
  go_enter Tryz.func179, Tryz.ntmps179
  go_wp2
  simp [Instr.panic, Oper.upon, go_sem]; refine Xa ?_; refine xj8 rfl ?_; exact ⟨rfl, rfl⟩
theorem xp5 (p q : Addr) (w : World) :
    CallsD Tryz.prog 177 #[.pointer (some p), .pointer (some q)] .returning w fun e u' w' => e = .returned (.tuple #[]) ∧ u' = .returning ∧ w' = w := by
  refine callsD_of_wpS Tryz.func177 rfl fun c₀ cs hu => ?_
  apply wpS_seq; apply wpS_region; simp [wpOpsS, go_sem, recoverD, hu, Tryz.ntmps177, Exit.thenS]; apply wpS_seq; apply wpS_region; simp [wpOpsS, go_sem, Exit.thenS]; refine wpS_cond (t := false) (by simp [Act.eval, Array.replicate]) ?_; simp only [Bool.false_eq_true, if_false]; refine wpS_of_wp (wp_skip ?_); cases c₀
  simp_all [bodyPostS, results, Tryz.results177]
theorem zr281 : ZA Tryz.prog 281 [] := ⟨.agg #[], by kernel_rfl, rfl⟩
theorem bs213 : BS Tryz.prog 213 Rcd.z.cells [(0, 1), (1, 1), (2, 1), (3, 1)] := BS.of Tryz.underlying213 (by kernel_rfl) (by kernel_rfl)
theorem exec_mal {P : Program} {w : World} {a : Act} {o : Oper} (hP : P = Tryz.prog) (x : Operand) (ho : o.op = .typeAssert x 20 281 true) (hx : a.eval x = .iface 281 (.agg #[])) : (execOp a.eval o).run P w = .ok (.value (.tuple #[.agg #[], .bool true])) w := by
  unfold execOp; subst hP; simp only [ho, hx]; simp [Instr.typeAssert, go_sem]
theorem xs2 (p q : Nat) (cs0 : List Value) (b0 : Bool) (w : World) (h4 : cs0.length = 4) (hp : Blk w p 213 cs0) (hq : Blk w q 4 [.bool b0]) :
    CallsD Tryz.prog 177 #[.pointer (some ⟨p, 0, none⟩), .pointer (some ⟨q, 0, none⟩)] (.panicking [{ v := malV, recovered := false }]) w fun e u' w' =>
      e = .returned (.tuple #[]) ∧ u' = .panicking [{ v := malV, recovered := true }] ∧ Blk w' p 213 Rcd.z.cells ∧ Blk w' q 4 [.bool false] ∧ Fr (fun k => k = p ∨ k = q) w w' := by
  refine callsD_of_wpS Tryz.func177 rfl fun c₀ cs hu => ?_
  apply wpS_seq; apply wpS_region; simp [wpOpsS, go_sem, recoverD, hu, Tryz.ntmps177, Exit.thenS, malV]; apply wpS_seq; apply wpS_region; simp [wpOpsS, go_sem, Exit.thenS]; refine wpS_cond (t := true) (by simp [Act.eval, Array.replicate]) ?_; simp only [if_true]; refine wpS_of_wp ?_; simp only [Array.replicate_succ, Array.replicate_zero, List.push_toArray, qn, qm, qf, qg, qh, List.append_toArray]
  have HL := (Loc.start w).adopt (fun k => k = p ∨ k = q) [(p, 213, cs0), (q, 4, [.bool b0])] (fun x hx => by
    simp only [List.mem_cons, List.not_mem_nil, or_false] at hx; rcases hx with rfl | rfl
    · exact ⟨.inl rfl, hp⟩
    · exact ⟨.inr rfl, hq⟩) (by simp; exact hp.ne hq (by decide))
  simp only [qn] at HL; clear hp hq; have HPP : Hid (Tryz.prog = Tryz.prog) := hZ rfl; obtain ⟨w0, rfl⟩ := eW w; go_upto_region 2 with fail; refine X11 ?_; refine xaa rfl _ (exec_mal HPP.out _ rfl rfl) ?_; refine X49 ?_; refine xai zr281 rfl rfl HL ?_; clear HL; intro g3 w HL; refine Xt ?_; refine xbn ag281 rfl _ _ rfl HL 0 g3 281 [] [] rfl rfl rfl rfl rfl (by simp) ?_; refine X2q ?_; clear HL; intro w HL; refine Xz ?_; go_upto_region 3 with fail; refine X2o ?_; go_upto_region 5 with fail; refine Xs ?_; refine xaa rfl _ (xbq bs213 _ rfl _ rfl) ?_; refine X5 ?_; refine xbn xjz rfl _ _ rfl HL 1 p 213 _ Rcd.z.cells rfl rfl rfl (Rcd.len _) h4 (Rcd.one _) ?_; refine X2q ?_; clear HL; intro w HL; refine Xt ?_; refine xa1 sc4 rfl _ _ rfl HL 2 q 0 4 _ [.bool false] (.bool false) rfl rfl rfl rfl (by simp) rfl ?_; refine X2u ?_; clear HL; intro w HL
  go_wp2_with fail; refine Xa ?_; exact ⟨rfl, .panicking [{ v := malV, recovered := true }], rfl, _, results_none rfl _ _ _, rfl, rfl, HL.blk (.tail _ (.head _)), HL.blk (.tail _ (.tail _ (.head _))), ⟨HL.fr.os, HL.fr.tape, HL.fr.output, HL.fr.size, fun k hk hn => HL.fr.block k hk (fun n => n ⟨hk, hn⟩)⟩⟩
section
variable {P : Program} {w : World} {o : Oper} {a : Act} {Q : Exit → Act → World → Prop} {K : Act → World → Prop}
theorem xlj {n : Nat} (C : CF P n) {xs : List Operand} {ts : Array TypeId} (ho : o.op = .call { callee := .value (.func n), args := xs.toArray, argTypes := ts })
    (args : List Value) (ha : xs.map a.eval = args) (hC : Calls P n args.toArray w fun e w' => ∃ chain, e = .panicked chain ∧ Q (.panic chain) a w') : o.wp P a w K Q := by
  obtain ⟨fn, hf, hnm, hb⟩ := C.f
  have e : (execOp a.eval o).run P w = .ok (.enter n args.toArray) w := by
    unfold execOp; simp only [ho, resolve, List.map_toArray, ha]; have h1 : fn.name ≠ "runtime.NumGoroutine" := by simpa using hnm
    have h2 : fn.body ≠ none := by intro h; rw [h] at hb; cases hb
    simp [Act.eval, Deferred.ofValue, invoke, callFunc, hf, h1, h2]
  unfold Oper.wp; rw [e]; refine hC.mono ?_; rintro e w' ⟨chain, rfl, hk⟩; exact hk
theorem xlk {n : Nat} {x : Operand} {xs : List Operand} {ts : Array TypeId} (ho : o.op = .defer { callee := .value x, args := xs.toArray, argTypes := ts }) (cp : List Value) (hx : a.eval x = .func (.func n) #[] cp.toArray) (args : List Value) (ha : xs.map a.eval = args)
    (h : K ({ a with defers := { target := .fn (.func n) cp.toArray, args := args.toArray } :: a.defers }.put o.dst undef) w) : o.wp P a w K Q := by
  have e : (execOp a.eval o).run P w = .ok (.defer { target := .fn (.func n) cp.toArray, args := args.toArray }) w := by
    unfold execOp; simp only [ho, resolve, List.map_toArray, hx, ← ha]; simp [Deferred.ofValue, go_sem]
  unfold Oper.wp; rw [e]; exact h
theorem xj9 {n : Nat} (C : CF P n) (cp args : List Value) : (invoke (.fn (.func n) cp.toArray) args.toArray).run P w = .ok (.enter n (args ++ cp).toArray) w := by
  obtain ⟨fn, hf, hnm, hb⟩ := C.f; have h1 : fn.name ≠ "runtime.NumGoroutine" := by simpa using hnm
  have h2 : fn.body ≠ none := by intro h; rw [h] at hb; cases hb
  simp [invoke, callFunc, hf, h1, h2]
theorem xiy {ad : Addr} {ty : TypeId} {v : Value} {d : TypeDesc} (hc : w.cell? ad = some v) (hu : P.underlying ty = some d) (hd : d.isRow = false) : (loadVar ty ad).run P w = .ok v w := by
  have hagg : (isAgg ty).run P w = .ok false w := by
    unfold isAgg; rw [Sem.run_bind, run_underlying hu w]; cases d <;> simp_all [TypeDesc.isRow]
  simp only [loadVar, Sem.run_bind, Sem.run_pure, Result.andThen_ok, hagg, Bool.false_eq_true, if_false, run_load, hc]
theorem xid {fn : Func} {p q : Tmp} {ty ty2 n : Nat} (h : fn.results = #[.cell p ty, .cell q ty2]) (B : AT P ty n) (B2 : W1 P ty2) (tmps : Array Value) (g g2 t t2 : Nat) (vs : List Value) (v2 : Value)
    (hp : tmps.getD p undef = .pointer (some ⟨g, 0, none⟩)) (hb : Blk w g t vs) (hn : vs.length = n) (hq : tmps.getD q undef = .pointer (some ⟨g2, 0, none⟩)) (hb2 : Blk w g2 t2 [v2]) : (results fn tmps).run P w = .ok (.tuple #[.agg vs.toArray, v2]) w := by
  obtain ⟨d, hu, hd⟩ := B.u; obtain ⟨d2, hu2, hd2⟩ := B2.u; have e1 := run_loadVar_row w g t ty vs.toArray (0, 0) d hb hu (by clear hb; cases d <;> simp_all) (by rw [B.i]; simp [hn]); have e2 : (loadVar ty2 ⟨g2, 0, none⟩).run P w = .ok v2 w := xiy (by rw [hb2.cell]; rfl) hu2 hd2; rw [Array.getD_eq_getD_getElem?] at hp hq; simp only [results, h]; simp [Sem.run_bind, Result.andThen, hp, hq, asAddr, e1, e2]
end
section
variable {w1 w : World} {D : Nat → Prop} {L : List (Nat × Nat × List Value)}
theorem u32_L {i g : Nat} {cs : List Value} {st : Option (List UInt8)} (H : Loc w1 D L w) (hL : L[i]? = some (g, 195, cs)) (hR : RdL w1 D cs st) (hb : ∀ l, st = some l → l.length ≤ 140737488351232) :
    Calls Tryz.prog 178 #[.pointer (some ⟨g, 0, none⟩)] w fun e w' => e = .returned (.int .i64 (numL st 4 : Nat)) ∧ ∃ cs', RdL w1 D cs' (xcg st 4) ∧ Loc w1 D (L.set i (g, 195, cs')) w' := by
  refine (u32_any g st w (hR.p H hL) (H.own _ (List.mem_of_getElem? hL)).1 hb).mono ?_; rintro e w' ⟨rfl, h2, h3⟩; have hgD := (H.own _ (List.mem_of_getElem? hL)).1; have H' : Loc w1 D [] w' := (H.drop [] (List.nil_sublist _)).frame (T := (· = g)) h3 (fun k hk => hk ▸ hgD) (fun x hx => by simp at hx); obtain ⟨cs', h4, h5⟩ := RdL.of H' h2; exact ⟨rfl, cs', h5, H.putF hL h4 h3⟩
theorem byte_L {i g : Nat} {cs : List Value} {st : Option (List UInt8)} (H : Loc w1 D L w) (hL : L[i]? = some (g, 195, cs)) (hR : RdL w1 D cs st) (hb : ∀ l, st = some l → l.length ≤ 140737488351232) :
    Calls Tryz.prog 222 #[.pointer (some ⟨g, 0, none⟩)] w fun e w' => e = .returned (.int .u8 (numL st 1 : Nat)) ∧ ∃ cs', RdL w1 D cs' (xcg st 1) ∧ Loc w1 D (L.set i (g, 195, cs')) w' := by
  refine (byte_any g st w (hR.p H hL) (H.own _ (List.mem_of_getElem? hL)).1 hb).mono ?_; rintro e w' ⟨rfl, h2, h3⟩; have hgD := (H.own _ (List.mem_of_getElem? hL)).1; have H' : Loc w1 D [] w' := (H.drop [] (List.nil_sublist _)).frame (T := (· = g)) h3 (fun k hk => hk ▸ hgD) (fun x hx => by simp at hx); obtain ⟨cs', h4, h5⟩ := RdL.of H' h2; exact ⟨rfl, cs', h5, H.putF hL h4 h3⟩
end
def xis (l : List UInt8) : Prop := xcg (some l) 4 = none ∨ (numL (some l) 4 ≤ 70000 ∧ xcg (some l) 4 ≠ none ∧ xcg (xcg (xcg (some l) 4) (numL (some l) 4 : Nat)) 32 = none)
theorem xmu {st : Option (List UInt8)} (h : ∀ q, st = some q → q.length ≤ 140737488351232) (k : Int) : ∀ q, xcg st k = some q → q.length ≤ 140737488351232 := by
  intro q hq
  cases st with
  | none => cases hq
  | some l =>
    unfold xcg at hq; simp only at hq
    split at hq
    · injection hq with hq
      have := h l rfl; rw [← hq, List.length_drop]; omega
    · cases hq
def NextN (w : World) (e : Ending) (w' : World) : Prop := e = .returned (.tuple #[.agg Rcd.z.cells.toArray, .bool false]) ∧ Below w.heap.size w w'
theorem next_no {w : World} (A : Option Addr) (n c : Nat) (l : List UInt8) (h : Tx w A n c l) (hn : n ≤ 70036) (hbad : xis l) : Calls Tryz.prog 118 #[.slice A n c] w (NextN w) := by
  have HT := hZ h; have HLR := hZ h.rd; obtain ⟨m, hm⟩ : ∃ m, min n 70036 = m := ⟨_, rfl⟩; have HM := hZ hm; have HLL : Hid (l.length = m) := hZ (by rw [h.len]; omega); have hB0 : ∀ q, some l = some q → q.length ≤ 140737488351232 := fun q e => by cases e; have := h.len; omega
  clear h hm; have HL := Loc.start w; obtain ⟨w0, rfl⟩ := eW w
  go_enter_defers Tryz.func118, Tryz.ntmps118
  go_upto_region 0 with fail; refine Xs ?_; refine xai zr213 rfl rfl HL ?_; clear HL; intro g2 w HL; refine X5 ?_; refine xai zr4 rfl rfl HL ?_; clear HL; intro g3 w HL; refine X21 ?_; go_upto_region 1 with fail; refine Xs ?_; refine Xe9 ?_; refine X4z ?_; intro K hK; refine Xea ?_; refine hK _ _ ?_; clear hK K; refine X16 ?_; go_upto_region 2 with fail; refine X18 ?_; refine Xeb ?_; refine X5 ?_; refine xaa rfl _ (xge _ _ rfl n 70036 rfl rfl m HM.out) ?_; refine X5 ?_; refine xaa rfl _ (xaw sl25 _ _ rfl A n c m .i64 rfl rfl (by have := HT.out.cap; have := HM.out; omega)) ?_; refine X4z ?_; intro K hK; refine Xec ?_; (with_reducible refine (xi1 A m c l _ (HL.rdO HLR.out) HLL.out (by have := HM.out; omega)).mono ?_); rintro e w ⟨gr, A1, c1, rfl, M⟩; obtain ⟨H1, HL1, hR⟩ := HL.reader M; clear HL M; have HL := HL1; clear HL1
  obtain ⟨w1, rfl⟩ := eW w; refine Xee ?_; intro HBK HOD; have hszA := H1.fr.size; generalize Rest w1 _ = D1 at HL hR HBK HOD; generalize hcs : [Value.bool true, Value.bool false, Value.slice A1 l.length c1] = cs0 at HL hR; clear H1 hcs; refine X2n ?_; clear hK K; go_upto_region 3 with fail; refine X1x ?_; intro K hK; refine xac cf178 rfl _ rfl ?_; refine X1y ?_; (with_reducible refine (u32_L (i := 0) HL rfl hR hB0).mono ?_); rintro e w ⟨rfl, cs1, hR1, HL1⟩; clear HL hR; have HL := HL1; clear HL1; simp only [qg, qh] at HL; refine X2n ?_; clear hK K; have hB1 := xmu hB0 4; unfold xis at hbad; generalize numL (some l) 4 = x at hbad; generalize xcg (some l) 4 = st1 at hR1 hbad hB1; clear hB0; rcases hbad with rfl | ⟨hx, hne, hbad⟩
  · clear hB1
    go_upto_region 4 with fail; refine Xeg ?_; intro K hK; refine Xeh ?_; rintro e w ⟨rfl, rfl⟩; refine X5i ?_; clear hK K; refine xaa rfl _ (xf6 (b := false) _ rfl true rfl rfl) ?_; refine X14 ?_; refine no_implicit_lambda% (X2f ?_); refine X1k ?_; refine X4z ?_; intro K hK; refine xlj cf179 rfl _ rfl ?_; refine X1y ?_; (with_reducible refine (xra _).mono ?_); rintro e w ⟨rfl, rfl⟩; refine ⟨_, rfl, ?_⟩; clear hK K; simp only [Exit.inBlock, Exit.then]; refine Xei ?_; refine Xej ?_; rintro e u' w' ⟨rfl, rfl, hb1, hb2, hf⟩; refine ⟨_, xid rfl xjz sc4 _ g2 g3 213 4 _ _ rfl hb1 rfl rfl hb2, rfl, ?_⟩; exact HBK _ _ ((HL.drop [] (List.nil_sublist _)).frame hf (fun k hk => hk.elim (fun e => by rw [e]; exact (HL.own _ (.tail _ (.tail _ (.head _)))).1) (fun e => by rw [e]; exact (HL.own _ (.tail _ (.head _))).1)) (fun x hx => by cases hx))
  · obtain ⟨l1, rfl⟩ : ∃ l1, st1 = some l1 := by
      cases st1 with
      | none => exact absurd rfl hne
      | some l1 => exact ⟨l1, rfl⟩
    have k5 : decide ((x : Int) ≤ 70000) = true := by simp; omega
    have hB2 := xmu hB1 (x : Int); have hB3 := xmu hB2 32; have hx2 : -9223372036854775808 ≤ ((x : Nat) : Int) ∧ ((x : Nat) : Int) ≤ 9223372036854775807 := by omega
    go_upto_region 4 with fail; refine Xeg ?_; intro K hK; refine Xeh ?_; rintro e w ⟨rfl, rfl⟩; refine X5i ?_; clear hK K; refine Xek ?_; refine Xel ?_; refine X7b ?_; refine Xem ?_; intro K hK; rintro e w ⟨rfl, rfl⟩; refine X22 ?_; clear hK K; go_upto_region 5 with fail; refine X2k ?_; intro K hK; refine Xen ?_; (with_reducible refine (xlx (i := 0) HL rfl hR1 ((x : Nat) : Int) hx2 hB1).mono ?_); rintro e w ⟨G1, s1, cs2, rfl, hG1, hR2, HX2⟩; clear HL hR1; have HL := HX2; clear HX2; simp only [qg, qh, qm, qo, qn] at HL; refine X20 ?_; clear hK K; refine X42 ?_; intro K hK; refine Xen ?_; (with_reducible refine (xlx (i := 0) HL rfl hR2 32 (by decide) hB2).mono ?_); rintro e w ⟨G2, s2, cs3, rfl, hG2, hR3, HX2⟩; clear HL hR2; have HL := HX2; clear HX2; simp only [qg, qh, qm, qo, qn] at HL; refine X5i ?_; clear hK K; refine Xeo ?_; refine X5 ?_; refine Xep ?_
    refine X2q ?_; clear HL; intro w HL; refine Xt ?_; refine xaa rfl _ (xaf xl5 _ rfl _ rfl) ?_; refine X5 ?_; refine xa1 sc25 rfl _ _ rfl HL 2 g2 2 213 _ (⟨Sv.nil, s1, s2, 0⟩ : Rcd).cells s2.v rfl rfl rfl rfl (by rw [Rcd.len]; decide) rfl ?_; refine X2u ?_; clear HL; intro w HL; rw [hbad] at hR3; go_upto_region 6 with fail; refine Xeg ?_; intro K hK; (with_reducible refine (xnk (i := 0) HL rfl hR3).mono ?_); rintro e w ⟨rfl, rfl⟩; refine X5i ?_; clear hK K; refine xaa rfl _ (xf6 (b := false) _ rfl true rfl rfl) ?_; refine X4z ?_; intro K hK; refine xlj cf179 rfl _ rfl ?_; refine X1y ?_; (with_reducible refine (xra _).mono ?_); rintro e w ⟨rfl, rfl⟩; refine ⟨_, rfl, ?_⟩; clear hK K; simp only [Exit.inBlock, Exit.then]; refine Xei ?_; refine Xej ?_; rintro e u' w' ⟨rfl, rfl, hb1, hb2, hf⟩
    refine ⟨_, xid rfl xjz sc4 _ g2 g3 213 4 _ _ rfl hb1 rfl rfl hb2, rfl, ?_⟩; exact HBK _ _ ((HL.drop [] (List.nil_sublist _)).frame hf (fun k hk => hk.elim (fun e => by rw [e]; exact (HL.own _ (.tail _ (.tail _ (.head _)))).1) (fun e => by rw [e]; exact (HL.own _ (.tail _ (.head _))).1)) (fun x hx => by cases hx))
theorem xea (a r : List UInt8) (k : Int) (hk : k = (a.length : Int)) : xcg (some (a ++ r)) k = some r := by
  subst hk; unfold xcg; simp only; rw [if_pos ⟨by omega, by rw [List.length_append]; omega⟩, Int.toNat_natCast, List.drop_left]
theorem xeb (a r : List UInt8) (k : Int) (hk : k = (a.length : Int)) : xd1 (some (a ++ r)) k = a := by
  subst hk; unfold xd1; simp only; rw [if_pos ⟨by omega, by rw [List.length_append]; omega⟩, Int.toNat_natCast, List.take_left]
section
variable {w1 w : World} {D : Nat → Prop} {L : List (Nat × Nat × List Value)}
theorem xka {i g : Nat} {cs : List Value} {a r : List UInt8} (H : Loc w1 D L w) (hL : L[i]? = some (g, 195, cs)) (hR : RdL w1 D cs (some (a ++ r))) (hl : (a ++ r).length ≤ 20000) (k : Int) (hk : k = (a.length : Int)) :
    Calls Tryz.prog 53 #[.pointer (some ⟨g, 0, none⟩), .int .i64 k] w fun e w' => ∃ G sv cs', e = .returned (Sv.v sv) ∧ Gw 5 1 G sv a.length (bvs a) ∧ RdL w1 D cs' (some r) ∧ Loc w1 D ((L.set i (g, 195, cs')) ++ (G ++ [])) w' := by
  have hla : a.length ≤ 20000 := by rw [List.length_append] at hl; omega
  have h := xlx H hL hR k (by omega) (fun q e => by cases e; omega); rw [xea a r k hk, xeb a r k hk] at h; exact h
theorem xmv {i g : Nat} {cs : List Value} {r : List UInt8} (H : Loc w1 D L w) (hL : L[i]? = some (g, 195, cs)) (n : Nat) (hR : RdL w1 D cs (some (be 2 n ++ r))) (hl : (be 2 n ++ r).length ≤ 20000) (hn : n < 65536) :
    Calls Tryz.prog 58 #[.pointer (some ⟨g, 0, none⟩)] w fun e w' => e = .returned (.int .i64 (n : Int)) ∧ ∃ cs', RdL w1 D cs' (some r) ∧ Loc w1 D (L.set i (g, 195, cs')) w' := by
  have h := u16_L H hL hR (fun q e => by cases e; omega); rw [xea (be 2 n) r 2 (by rw [xaq]; rfl)] at h
  have e : numL (some (be 2 n ++ r)) 2 = n := by
    unfold numL; rw [xeb (be 2 n) r _ (by rw [xaq]), xjg]; exact Nat.mod_eq_of_lt hn
  rw [e] at h; exact h
theorem xrb {i g : Nat} {cs : List Value} {r : List UInt8} (H : Loc w1 D L w) (hL : L[i]? = some (g, 195, cs)) (n : Nat) (hR : RdL w1 D cs (some (be 4 n ++ r))) (hl : (be 4 n ++ r).length ≤ 140737488351232) (hn : n < 4294967296) :
    Calls Tryz.prog 178 #[.pointer (some ⟨g, 0, none⟩)] w fun e w' => e = .returned (.int .i64 (n : Int)) ∧ ∃ cs', RdL w1 D cs' (some r) ∧ Loc w1 D (L.set i (g, 195, cs')) w' := by
  have h := u32_L H hL hR (fun q e => by cases e; omega); rw [xea (be 4 n) r 4 (by rw [xaq]; rfl)] at h
  have e : numL (some (be 4 n ++ r)) 4 = n := by
    unfold numL; rw [xeb (be 4 n) r _ (by rw [xaq]), xjg]; exact Nat.mod_eq_of_lt hn
  rw [e] at h; exact h
theorem done_nil {i g : Nat} {cs : List Value} (H : Loc w1 D L w) (hL : L[i]? = some (g, 195, cs)) (hR : RdL w1 D cs (some [])) : Calls Tryz.prog 54 #[.pointer (some ⟨g, 0, none⟩)] w fun e w' => e = .returned (.bool true) ∧ w = w' := done_L H hL hR
theorem xop {i g : Nat} {cs : List Value} {b : UInt8} {r : List UInt8} (H : Loc w1 D L w) (hL : L[i]? = some (g, 195, cs)) (hR : RdL w1 D cs (some (b :: r))) (hl : (b :: r).length ≤ 20000) (z : Int) (hz : (b.toNat : Int) = z) :
    Calls Tryz.prog 222 #[.pointer (some ⟨g, 0, none⟩)] w fun e w' => e = .returned (.int .u8 z) ∧ ∃ cs', RdL w1 D cs' (some r) ∧ Loc w1 D (L.set i (g, 195, cs')) w' := by
  have h := byte_L H hL hR (fun q e => by cases e; omega); rw [show b :: r = [b] ++ r from rfl, xea [b] r 1 rfl] at h
  have e : ((numL (some ([b] ++ r)) 1 : Nat) : Int) = z := by
    unfold numL; rw [xeb [b] r ((1 : Nat) : Int) rfl, ← hz]; simp [nOf]
  rw [e] at h; exact h
end
theorem el80 : ET Tryz.prog 80 (.agg Rw.z.cells.toArray) 3 56 := ⟨by kernel_rfl, by show Rw.z.cells.length = _; exact Rw.len _, by omega⟩
theorem bs80 : BS Tryz.prog 80 Rw.z.cells [(0, 1), (1, 1), (2, 1)] := BS.of Tryz.underlying80 (by kernel_rfl) (by kernel_rfl)
theorem xoq (x0 : Sv) (x1 : Bool) (x2 : Sv) : Instr.fill (fun x => [(0, 1), (1, 1), (2, 1)].toArray[x]?) Rw.z.cells.toArray [(0, x0.v), (1, .bool x1), (2, x2.v)] = some ((⟨x0, x1, x2⟩ : Rw)).cells.toArray := by
  refine xaj (vs := [x0.v]) rfl rfl rfl (by rw [Rw.len]; decide) ?_; refine xaj (vs := [.bool x1]) rfl rfl rfl (by simp [splice, Rw.z, Rw.cells]) ?_; refine xaj (vs := [x2.v]) rfl rfl rfl (by simp [splice, Rw.z, Rw.cells]) ?_; rfl
def cnE (e : RE) : List UInt8 × Bool × List UInt8 := (e.k, e.r.gone, if e.r.gone then [] else e.v)
def cnR (e : RE) : List UInt8 × Bool × List UInt8 := (e.k, e.r.gone, e.v)
def xct (rs : List RE) (i : Nat) : List UInt8 := ((rs.drop i).map rw1).flatten
theorem xs3 (rs : List RE) (i : Nat) (h : i < rs.length) : xct rs i = rw1 rs[i] ++ xct rs (i + 1) := by
  unfold xct; rw [List.drop_eq_getElem_cons h, List.map_cons, List.flatten_cons]
theorem xos (rs : List RE) (hk : ∀ e ∈ rs, e.k.length = 32) (hv : ∀ e ∈ rs, e.r.gone = false → e.v.length ≤ 1024) (hn : rs.length ≤ 11) (i : Nat) : (xct rs i).length ≤ 1059 * 11 := by
  have : ∀ l : List RE, (∀ e ∈ l, e ∈ rs) → ((l.map rw1).flatten).length ≤ 1059 * l.length := by
    intro l
    induction l with
    | nil => intro _; simp
    | cons e l ih =>
      intro h; have h1 := ih (fun x hx => h x (by simp [hx])); have h2 := xq9 (hk e (h e (by simp))) (hv e (h e (by simp))); simp only [qk, List.flatten_cons, qp, qr]; omega
  have h1 := this (rs.drop i) (fun e he => List.mem_of_mem_drop he); rw [List.length_drop] at h1; unfold xct; omega
theorem xs4 (rs : List RE) : xa5 rs = be 2 rs.length ++ xct rs 0 := by
  unfold xa5 xc5 xct; rw [List.take_length, List.drop_zero]
inductive RwS : List (Nat × Nat × List Value) → List RE → Prop
  | nil : RwS [] []
  | snoc {G Gk Gv : List (Nat × Nat × List Value)} {es : List RE} {sk sv : Sv} {g : Bool} {k v : List UInt8} (hs : RwS G es) (h1 : Gw 5 1 Gk sk k.length (bvs k)) (h2 : Gw 5 1 Gv sv v.length (bvs v)) : RwS (G ++ (Gk ++ Gv)) (es ++ [⟨⟨sk, g, sv⟩, k, v⟩])
theorem RwS.out {w0 w : World} {D : Nat → Prop} {L G : List (Nat × Nat × List Value)} {es : List RE} (h : RwS G es) (H : Loc w0 D L w) (hm : ∀ x ∈ G, x ∈ L) {N : Nat} (hN : ∀ x ∈ G, N ≤ x.1) : ∀ e ∈ es, Tx w e.r.key.A e.r.key.n e.r.key.c e.k ∧ Tx w e.r.val.A e.r.val.n e.r.val.c e.v ∧ (∀ ad, e.r.val.A = some ad → N ≤ ad.block) ∧ ∀ ad, e.r.key.A = some ad → N ≤ ad.block := by
  induction h with
  | nil => intro e he; cases he
  | snoc hs h1 h2 ih =>
    intro e he; rcases List.mem_append.1 he with he | he
    · exact ih (fun x hx => hm x (by simp [hx])) (fun x hx => hN x (by simp [hx])) e he
    · rw [List.mem_singleton.1 he]
      exact ⟨h1.txm (fun x hx => hm x (by simp [hx])) H, h2.txm (fun x hx => hm x (by simp [hx])) H, h2.fars (fun x hx => hN x (by simp [hx])), h1.fars (fun x hx => hN x (by simp [hx]))⟩
def BodyO (w : World) (rs : List RE) (e : Ending) (w' : World) : Prop := ∃ (sv : Sv) (es : List RE), e = .returned sv.v ∧ RawT (fun k => k < w.heap.size) w' sv.A sv.n sv.c es ∧ es.map cnR = rs.map cnE ∧ Below w.heap.size w w' ∧ (∀ ad, sv.A = some ad → w.heap.size ≤ ad.block) ∧ ∀ e ∈ es, (∀ ad, e.r.val.A = some ad → w.heap.size ≤ ad.block) ∧ ∀ ad, e.r.key.A = some ad → w.heap.size ≤ ad.block
theorem body_ok {w : World} (A : Option Addr) (n c : Nat) (rs : List RE) (h : Tx w A n c (xa5 rs)) (hn : rs.length ≤ 11) (hk : ∀ e ∈ rs, e.k.length = 32) (hv : ∀ e ∈ rs, e.r.gone = false → e.v.length ≤ 1024) : Calls Tryz.prog 180 #[.slice A n c] w (BodyO w rs) := by
  have HRN : Hid (∀ i, (xct rs i).length ≤ 20000) := hZ (fun i => by have := xos rs hk hv hn i; omega); have HTL : Hid ((be 2 rs.length ++ xct rs 0).length ≤ 20000) := hZ (by have := xos rs hk hv hn 0; rw [List.length_append, xaq]; omega); rw [xs4] at h; have HLR := hZ h.rd; have HLL := hZ h.len; have HK := hZ hk; have HV := hZ hv; clear h hk hv; have HL := Loc.start w; obtain ⟨w0, rfl⟩ := eW w; go_enter Tryz.func180, Tryz.ntmps180; go_upto_region 0 with fail; refine X1j ?_; go_upto_region 1 with fail; refine X1x ?_; intro K hK; refine Xec ?_; (with_reducible refine (xi1 A n c _ _ (HL.rdO HLR.out) HLL.out (by have := HLL.out; have := HTL.out; omega)).mono ?_); rintro e w ⟨gr, A1, c1, rfl, M⟩; obtain ⟨H1, HL1, hR⟩ := HL.reader M; clear HL M; have HL := HL1; clear HL1; obtain ⟨w1, rfl⟩ := eW w; refine Xee ?_; intro HBK HOD
  generalize Rest w1 _ = D1 at HL hR HBK HOD; generalize hcs : [Value.bool true, Value.bool false, Value.slice A1 _ c1] = cs0 at HL hR; clear H1 hcs; refine X2n ?_; clear hK K; have k3 : decide ((rs.length : Int) ≤ 64) = true := by simp; omega
  go_upto_region 2 with fail; refine X1x ?_; intro K hK; refine xac cf58 rfl _ rfl ?_; refine X1y ?_; (with_reducible refine (xmv (i := 0) HL rfl rs.length hR HTL.out (by omega)).mono ?_); rintro e w ⟨rfl, cs1, hR1, HL1⟩; clear HL hR; have HL := HL1; clear HL1; simp only [qg, qh] at HL; refine X2n ?_; clear hK K; go_upto_region 3 with fail; refine X11 ?_; refine xaa rfl _ (xcq (b := true) _ _ rfl _ _ rfl rfl k3) ?_; refine X26 ?_; refine X5g ?_; intro K hK; refine Xef ?_; refine Xeh ?_; rintro e w ⟨rfl, rfl⟩; refine X5i ?_; clear hK K; refine xad rfl _ (xf6 (b := true) _ rfl false rfl rfl) ?_; refine X7b ?_; refine Xem ?_; intro K hK; rintro e w ⟨rfl, rfl⟩; refine X22 ?_; clear hK K; go_upto_region 4 with fail; refine X1j ?_; go_upto_region 5 with fail; refine X18 ?_; refine Xx ?_; go_wp2_with fail
  go_loopw [5, 23] (fun v z wr => ∃ (i : Nat) (cs : List Value) (so : Sv) (es : List RE) (Go GT : List (Nat × Nat × List Value)), i ≤ rs.length ∧ v = so.v ∧ z = .int .i64 (i : Int) ∧ RdL w1 D1 cs (some (xct rs i)) ∧ Gw 80 3 Go so i ((es.map RE.r).flatMap Rw.cells) ∧ RwS GT es ∧ es.map cnR = (rs.take i).map cnE ∧
    Loc w1 D1 ((gr, 195, cs) :: (Go ++ (GT ++ []))) wr) (fun _ z _ => (rs.length - intOf z).toNat)
  case atStart => exact ⟨0, cs1, Sv.nil, [], [], [], Nat.zero_le _, rfl, rfl, hR1, Gw.nil 80 3, .nil, rfl, HL⟩
  case round => as_aux_lemma =>
    clear HL hR1; obtain ⟨i, cs, so, es, Go, GT, hi, rfl, rfl, hR, hGo, hRs, hES, HL⟩ := hrel; obtain ⟨w, rfl⟩ := eW wr; have HES := hZ hES; clear hES; by_cases hlt : i < rs.length
    · have k6 : decide ((i : Int) < (rs.length : Int)) = true := by simp; omega
      refine X9k ?_; intro HI1; have HKL := hZ (HK.out _ (List.getElem_mem hlt)); have HV2 := hZ (HV.out _ (List.getElem_mem hlt)); have HTN := hZ (xs3 rs i hlt); have HTK : Hid ((rs.take (i + 1)).map cnE = (rs.take i).map cnE ++ [cnE rs[i]]) := hZ (by rw [List.take_succ_eq_append_getElem hlt, List.map_append]; rfl); obtain ⟨x, hx⟩ : ∃ x, rs[i] = x := ⟨_, rfl⟩; rw [hx] at HKL HV2 HTN HTK; clear hx; obtain ⟨⟨key, gone, val⟩, k, v⟩ := x; replace HKL : Hid (k.length = 32) := HKL; replace HV2 : Hid (gone = false → v.length ≤ 1024) := HV2; cases gone
      · have hlt2 := hlt
        have HE : Hid (xct rs i = k ++ ((0 : UInt8) :: (be 2 v.length ++ (v ++ xct rs (i + 1))))) := hZ (by rw [HTN.out]; simp [rw1]); rw [HE.out] at hR; have HLB : Hid ((k ++ ((0 : UInt8) :: (be 2 v.length ++ (v ++ xct rs (i + 1))))).length ≤ 20000) := hZ (by rw [← HE.out]; exact HRN.out i); have HLB1 : Hid (((0 : UInt8) :: (be 2 v.length ++ (v ++ xct rs (i + 1)))).length ≤ 20000) := hZ (by have := HLB.out; rw [List.length_append] at this; omega); have HLB2 : Hid ((be 2 v.length ++ (v ++ xct rs (i + 1))).length ≤ 20000) := hZ (by have := HLB1.out; rw [List.length_cons] at this; omega); have HLB3 : Hid ((v ++ xct rs (i + 1)).length ≤ 20000) := hZ (by have := HLB2.out; rw [List.length_append] at this; omega); have HK32 : Hid ((32 : Int) = (k.length : Int)) := hZ (by rw [HKL.out]; rfl); have HZB : Hid ((((0 : UInt8).toNat : Nat) : Int) = 0) := hZ (by decide)
        have HZ0 : Hid (((0 : Nat) : Int) = ((([] : List UInt8).length : Nat) : Int)) := hZ rfl; have HVN : Hid (v.length < 65536) := hZ (by have := HV2.out rfl; omega); have HVL : Hid (v.length ≤ 1024) := hZ (HV2.out rfl); have k4 : decide ((v.length : Int) ≤ 1024) = true := by have := HVL.out; simp; omega
        go_upto_region 6 with fail; refine Xs ?_; refine Xcl ?_; refine X21 ?_; go_upto_region 7 with fail; refine X1x ?_; intro K hK; refine Xeq ?_; rintro e w ⟨Gk, sk, cs2, rfl, hGk, hR2, HX2⟩; clear HL hR; have HL := HX2; clear HX2; simp only [qg, qh, qm, qo, qn] at HL; refine X20 ?_; clear hK K; refine X42 ?_; intro K hK; refine xac cf222 rfl _ rfl ?_; refine X1y ?_; (with_reducible refine (xop (i := 0) HL rfl hR2 HLB1.out 0 HZB.out).mono ?_); rintro e w ⟨rfl, cs3, hR3, HX3⟩; clear HL hR2; have HL := HX3; clear HX3; simp only [qg, qh] at HL; refine X5i ?_; clear hK K; refine X1f ?_; go_upto_region 8 with fail; refine X1x ?_; intro K hK; refine xac cf58 rfl _ rfl ?_; refine X1y ?_; (with_reducible refine (xmv (i := 0) HL rfl v.length hR3 HLB2.out HVN.out).mono ?_); rintro e w ⟨rfl, cs4, hR4, HX4⟩; clear HL hR3; have HL := HX4; clear HX4; simp only [qg, qh] at HL
        refine X2n ?_; clear hK K; go_upto_region 9 with fail; refine Xer ?_; refine X26 ?_; refine xad rfl _ (xcq (b := true) _ _ rfl _ _ rfl rfl k4) ?_; refine X27 ?_; refine Xes ?_; refine X1m ?_; refine no_implicit_lambda% (X2f ?_); refine X1s ?_; refine X7b ?_; refine Xem ?_; intro K hK; rintro e w ⟨rfl, rfl⟩; refine X22 ?_; clear hK K; go_upto_region 10 with fail; refine X2k ?_; intro K hK; refine Xen ?_; (with_reducible refine (xka (i := 0) HL rfl hR4 HLB3.out ((v.length : Nat) : Int) rfl).mono ?_); rintro e w ⟨Gv, sv, cs5, rfl, hGv, hR5, HX5⟩; clear HL hR4; have HL := HX5; clear HX5; simp only [qg, qh, qm, qo, qn] at HL; refine X2n ?_; clear hK K; go_upto_region 11 with fail; refine Xeg ?_; intro K hK; (with_reducible refine (xnk (i := 0) HL rfl hR5).mono ?_); rintro e w ⟨rfl, rfl⟩; refine X5i ?_; clear hK K; refine Xek ?_; refine Xem ?_; intro K hK
        rintro e w ⟨rfl, rfl⟩; refine X22 ?_; clear hK K; go_upto_region 12 with fail; refine X6m ?_; refine xaa rfl _ (xa3 (b := false) _ _ rfl _ _ rfl rfl (by decide)) ?_; refine X14 ?_; refine xaa rfl _ (xbq bs80 _ rfl _ (by exact xoq sk false sv)) ?_; refine X5 ?_; refine xb7 sl73 el80 (by decide) rfl _ rfl HL (⟨sk, false, sv⟩ : Rw).cells rfl (Rw.len _) ?_; clear HL; intro g59 w HL; refine Xaw ?_; intro K hK; refine xa9 sl73 el80 _ _ rfl [_, _] i so _ hGo HL rfl ⟨g59, 0, none⟩ 1 1 (⟨sk, false, sv⟩ : Rw).cells rfl (Rd.of_blk0 (es := []) (by rw [List.append_nil]; exact HL.blk (.head _))) (Rw.len _) (Rw.one _) (by decide) (by omega) (by omega) ?_; clear HL; intro so' Go' w hGo' HL; refine X8z ?_; clear hK K; go_upto_region 13 with fail; refine Xc3 ?_; go_wp2_with fail; go_roundw
        case rel =>
          refine ⟨i + 1, cs5, so', es ++ [⟨⟨sk, false, sv⟩, k, v⟩], Go', GT ++ (Gk ++ Gv), by omega, rfl, rfl, hR5, ?_, hRs.snoc hGk hGv, ?_, ?_⟩
          · rw [List.map_append, List.flatMap_append]; simpa using hGo'
          · rw [List.map_append, HES.out, HTK.out]
            simp [cnE, cnR]
          · have HX := HL.drop ((gr, 195, cs5) :: (Go' ++ (GT ++ (Gk ++ (Gv ++ []))))) (sB _ _)
            simpa only [List.append_assoc] using HX
        case measure => simp [intOf] <;> omega
      · have hlt2 := hlt
        have HE : Hid (xct rs i = k ++ ((1 : UInt8) :: (be 2 0 ++ (([] : List UInt8) ++ xct rs (i + 1))))) := hZ (by rw [HTN.out]; simp [rw1]); rw [HE.out] at hR; have HLB : Hid ((k ++ ((1 : UInt8) :: (be 2 0 ++ (([] : List UInt8) ++ xct rs (i + 1))))).length ≤ 20000) := hZ (by rw [← HE.out]; exact HRN.out i); have HLB1 : Hid (((1 : UInt8) :: (be 2 0 ++ (([] : List UInt8) ++ xct rs (i + 1)))).length ≤ 20000) := hZ (by have := HLB.out; rw [List.length_append] at this; omega); have HLB2 : Hid ((be 2 0 ++ (([] : List UInt8) ++ xct rs (i + 1))).length ≤ 20000) := hZ (by have := HLB1.out; rw [List.length_cons] at this; omega); have HLB3 : Hid ((([] : List UInt8) ++ xct rs (i + 1)).length ≤ 20000) := hZ (by have := HLB2.out; rw [List.length_append] at this; omega); have HK32 : Hid ((32 : Int) = (k.length : Int)) := hZ (by rw [HKL.out]; rfl)
        have HZB : Hid ((((1 : UInt8).toNat : Nat) : Int) = 1) := hZ (by decide); have HZ0 : Hid (((0 : Nat) : Int) = ((([] : List UInt8).length : Nat) : Int)) := hZ rfl; have HVN : Hid (0 < 65536) := hZ (by decide); go_upto_region 6 with fail; refine Xs ?_; refine Xcl ?_; refine X21 ?_; go_upto_region 7 with fail; refine X1x ?_; intro K hK; refine Xeq ?_; rintro e w ⟨Gk, sk, cs2, rfl, hGk, hR2, HX2⟩; clear HL hR; have HL := HX2; clear HX2; simp only [qg, qh, qm, qo, qn] at HL; refine X20 ?_; clear hK K; refine X42 ?_; intro K hK; refine xac cf222 rfl _ rfl ?_; refine X1y ?_; (with_reducible refine (xop (i := 0) HL rfl hR2 HLB1.out 1 HZB.out).mono ?_); rintro e w ⟨rfl, cs3, hR3, HX3⟩; clear HL hR2; have HL := HX3; clear HX3; simp only [qg, qh] at HL; refine X5i ?_; clear hK K; refine X1f ?_; go_upto_region 8 with fail; refine X1x ?_; intro K hK; refine xac cf58 rfl _ rfl ?_
        refine X1y ?_; (with_reducible refine (xmv (i := 0) HL rfl 0 hR3 HLB2.out HVN.out).mono ?_); rintro e w ⟨rfl, cs4, hR4, HX4⟩; clear HL hR3; have HL := HX4; clear HX4; simp only [qg, qh] at HL; refine X2n ?_; clear hK K; go_upto_region 9 with fail; refine Xer ?_; refine X26 ?_; refine xad rfl _ (xcq (b := true) _ _ rfl _ _ rfl rfl (by decide)) ?_; refine X27 ?_; refine xad rfl _ (xa3 (b := false) _ _ rfl _ _ rfl rfl (by decide)) ?_; refine X5 ?_; refine X1m ?_; refine X1m ?_; refine Xes ?_; refine X1s ?_; refine X7b ?_; refine Xem ?_; intro K hK; rintro e w ⟨rfl, rfl⟩; refine X22 ?_; clear hK K; go_upto_region 10 with fail; refine X2k ?_; intro K hK; refine Xen ?_; (with_reducible refine (xka (i := 0) HL rfl hR4 HLB3.out ((0 : Nat) : Int) HZ0.out).mono ?_); rintro e w ⟨Gv, sv, cs5, rfl, hGv, hR5, HX5⟩; clear HL hR4; have HL := HX5; clear HX5
        simp only [qg, qh, qm, qo, qn] at HL; refine X2n ?_; clear hK K; go_upto_region 11 with fail; refine Xeg ?_; intro K hK; (with_reducible refine (xnk (i := 0) HL rfl hR5).mono ?_); rintro e w ⟨rfl, rfl⟩; refine X5i ?_; clear hK K; refine Xek ?_; refine Xem ?_; intro K hK; rintro e w ⟨rfl, rfl⟩; refine X22 ?_; clear hK K; go_upto_region 12 with fail; refine X6m ?_; refine xaa rfl _ (xa3 (b := true) _ _ rfl _ _ rfl rfl (by decide)) ?_; refine X14 ?_; refine xaa rfl _ (xbq bs80 _ rfl _ (by exact xoq sk true sv)) ?_; refine X5 ?_; refine xb7 sl73 el80 (by decide) rfl _ rfl HL (⟨sk, true, sv⟩ : Rw).cells rfl (Rw.len _) ?_; clear HL; intro g59 w HL; refine Xaw ?_; intro K hK
        refine xa9 sl73 el80 _ _ rfl [_, _] i so _ hGo HL rfl ⟨g59, 0, none⟩ 1 1 (⟨sk, true, sv⟩ : Rw).cells rfl (Rd.of_blk0 (es := []) (by rw [List.append_nil]; exact HL.blk (.head _))) (Rw.len _) (Rw.one _) (by decide) (by omega) (by omega) ?_; clear HL; intro so' Go' w hGo' HL; refine X8z ?_; clear hK K; go_upto_region 13 with fail; refine Xc3 ?_; go_wp2_with fail; go_roundw
        case rel =>
          refine ⟨i + 1, cs5, so', es ++ [⟨⟨sk, true, sv⟩, k, ([] : List UInt8)⟩], Go', GT ++ (Gk ++ Gv), by omega, rfl, rfl, hR5, ?_, hRs.snoc hGk hGv, ?_, ?_⟩
          · rw [List.map_append, List.flatMap_append]; simpa using hGo'
          · rw [List.map_append, HES.out, HTK.out]
            simp [cnE, cnR]
          · have HX := HL.drop ((gr, 195, cs5) :: (Go' ++ (GT ++ (Gk ++ (Gv ++ []))))) (sB _ _)
            simpa only [List.append_assoc] using HX
        case measure => simp [intOf] <;> omega
    · have k6 : decide ((i : Int) < (rs.length : Int)) = false := by simp; omega
      have hin : i = rs.length := by omega
      subst hin; have h0 : xct rs rs.length = [] := by unfold xct; rw [List.drop_length]; rfl
      rw [h0] at hR; clear h0 hlt; go_upto_region 6 with fail; refine Xs ?_; refine Xcl ?_; refine X21 ?_; go_upto_region 14 with fail; refine X1x ?_; intro K hK; refine xac cf54 rfl _ rfl ?_; refine X1y ?_; (with_reducible refine (done_nil (i := 0) HL rfl hR).mono ?_); rintro e w ⟨rfl, rfl⟩; refine X20 ?_; clear hK K; refine Xem ?_; intro K hK; rintro e w ⟨rfl, rfl⟩; refine X22 ?_; clear hK K; go_upto_region 15 with fail; refine X7j ?_; go_wp2_with fail; go_ret; have hN : ∀ x ∈ Go ++ GT, w0.heap.size ≤ x.1 := fun x hx => Nat.le_of_not_lt fun h2 => (HL.own x (by rcases List.mem_append.1 hx with h3 | h3 <;> simp [h3])).1 (HOD _ h2)
      have hout := hRs.out HL (fun x hx => by simp [hx]) (N := w0.heap.size) (fun x hx => hN x (by simp [hx])); refine ⟨so, es, rfl, ⟨hGo.rdm (fun x hx => by simp [hx]) HL, ?_, hGo.cap.1, fun e he => (hout e he).1, fun e he => (hout e he).2.1, fun e he _ ad ea hk => ?_⟩, by rw [HES.out, List.take_length], HBK _ _ HL, hGo.fars (fun x hx => hN x (by simp [hx])), fun e he => (hout e he).2.2⟩
      · have h1 := congrArg List.length HES.out
        simp only [List.length_map, List.take_length] at h1; rw [h1]; exact hGo.len.symm
      · have := (hout e he).2.2.1 ad ea
        omega
end Go.Proofs.YtkjjdgnkelchfaaGreat
