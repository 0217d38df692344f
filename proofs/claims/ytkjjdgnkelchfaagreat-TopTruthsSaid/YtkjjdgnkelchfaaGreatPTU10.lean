import Derived.Test.YtkjjdgnkelchfaaGreatPTU9
set_option linter.unusedSimpArgs false
set_option linter.unusedVariables false
set_option maxRecDepth 100000
set_option maxHeartbeats 16000000
namespace Go.Proofs.YtkjjdgnkelchfaaGreat
open Go Go.RowKit
section
variable {P : Program} {T E : TypeId} {z b : Nat} {zv : Value} {w0 w : World} {D : Nat → Prop} {L : List (Nat × Nat × List Value)} {ops : Array Oper} {rest : List Oper} {o : Oper} {a : Act} {Q : Exit → Act → World → Prop}
theorem xty (B : ST P T E z) (I : ET P E zv z b) (hz : z ≤ 10000) (hgd : o.guard = none) (x y : Operand) (ho : o.op = .buildSlice T 2 #[(0, x), (1, y)]) (H : Loc w0 D L w) (cs ds : List Value) (hx : a.eval x = .agg cs.toArray) (hl : cs.length = z) (hy : a.eval y = .agg ds.toArray) (hm : ds.length = z)
    (h : ∀ g w', Loc w0 D ((g, E, cs ++ ds) :: L) w' → wpList P ops Q rest (a.put o.dst (.slice (some ⟨g, 0, none⟩) 2 2)) w') : wpList P ops Q (o :: rest) a w := by
  obtain ⟨i, hi, hzz, hsz, _⟩ := info_parts I.i; have hp := I.p; refine wpList_plain hgd fun K hK => ?_
  refine wp_buildSlice T E 2 _ ho (cs ++ ds).toArray i _ B.t hi hzz (by rw [hsz]; omega) (by rw [hsz]; omega) ?_ (hK _ _ (h _ _ (H.new E (cs ++ ds)))); have h2 : ((#[(0, x), (1, y)] : Array (Nat × Operand)).map fun (i, x) => (i, a.eval x)).toList = (([.agg cs.toArray, .agg ds.toArray] : List Value).zipIdx 0).map fun x => (x.2, x.1) := by simp [hx, hy]
  rw [h2, hsz, Great.fill_whole hp _ _ ?_ ?_]
  · simp [Value.cells]
  · intro u hu
    simp at hu; rcases hu with rfl | rfl
    · simpa [Value.cells] using hl
    · simpa [Value.cells] using hm
  · simp
end
theorem el353 : ET Tryz.prog 353 (.agg #[.int .i64 0, .pointer none]) 2 16 := ⟨by kernel_rfl, by decide, by decide⟩
section
variable {D : Nat → Prop} {w w' : World} {gs g : Nat} {σ : Sb} {vs vf : Sv}
abbrev xhp (d : Nat) (key dl dr : D32) (left right size : Int) : Nd := ⟨tagI dl dr, 2, d, xgm key d false, Sv.nil, D32.z, left, right, size, 1⟩
def Sb.by (σ : Sb) (i : Nat) (b : Int) : Sb := { σ with slots := σ.slots.modify i fun e => ⟨{ e.nd with held := e.nd.held + b }, e.count, e.val⟩ }
theorem Sb.call_by (i : Nat) (hi : i < σ.slots.length) (b : Int) : σ.call i hi b = σ.by i b := by
  unfold Sb.call Sb.by Sb.put
  congr 1; apply List.ext_getElem (by simp); intro k h1 h2; rw [List.getElem_modify, List.getElem_set]
  split
  · next e => subst e; rfl
  · rfl
structure Sb.Nice (σ : Sb) : Prop where
  nd : σ.free.Nodup
  z : ∀ n ∈ σ.free, ∀ h : n - 1 < σ.slots.length, σ.slots[n - 1].count = 0
theorem xsf (hN : σ.Nice) (i : Nat) (hi : i < σ.slots.length) (hc : σ.slots[i].count ≠ 0) (e : En) : ∃ h : i < (σ.take e).slots.length, (σ.take e).slots[i] = σ.slots[i] := by
  unfold Sb.take
  cases hl : σ.free.getLast? with
  | none =>
    simp only [Sb.takeN]; refine ⟨by simp; omega, ?_⟩; rw [List.getElem_append_left hi]
  | some k =>
    simp only [Sb.takeF]; refine ⟨by simpa using hi, ?_⟩; rw [List.getElem_set_ne]; rintro rfl; exact hc (hN.z k (List.mem_of_getLast? hl) hi)
theorem by_at (i j : Nat) (b : Int) (hj : j < σ.slots.length) (hne : i ≠ j) : ∃ h : j < (σ.by i b).slots.length, (σ.by i b).slots[j] = σ.slots[j] := by
  unfold Sb.by
  refine ⟨by simpa using hj, ?_⟩; simp [List.getElem_modify, hne]
theorem xtz (D : Nat → Prop) (w : World) (g : Nat) (vs vf : Sv) : ValOk D w g vs vf Sv.nil [] := ⟨⟨rfl, Nat.le_refl _, Nat.zero_le _, Rd.nil _ _, fun ad e => by cases e⟩, fun ad e => by cases e⟩
def Goes (D : Nat → Prop) (w : World) (gs g : Nat) (r : Value) (σ' : Sb) (e : Ending) (w' : World) : Prop := ∃ D' vs' vf', e = .returned r ∧ StP D' w' gs g σ' vs' vf' ∧ Stp D w D' w'
theorem xla (h : StP D w gs g σ vs vf) (hN : σ.Nice) (d : Nat) (hd : d < 256) (i : Nat) (left : Int) (eL : left = (i : Int) + 1) (hi : i < σ.slots.length) (nl : Nd) (hnl : σ.slots[i].nd = nl) (hcl : σ.slots[i].count ≠ 0) (hfl : FitN nl d 0) (hhl : 0 < nl.held ∧ nl.held ≤ 4611686018427387904) (hsl : 0 ≤ nl.size ∧ nl.size ≤ 1073741824) (j : Nat) (right : Int) (eR : right = (j : Int) + 1) (hj : j < σ.slots.length) (nr : Nd) (hnr : σ.slots[j].nd = nr) (hcr : σ.slots[j].count ≠ 0) (hfr : FitN nr d 1) (hhr : 0 < nr.held ∧ nr.held ≤ 4611686018427387904) (hsr : 0 ≤ nr.size ∧ nr.size ≤ 1073741824) (hne : i ≠ j) (hcm : d ≤ comm nl.key.l nr.key.l) (hroom : σ.used < σ.room) :
    Calls Tryz.prog 210 #[.pointer (some ⟨gs, 0, none⟩), .int .i64 (d : Int), .int .i64 left, .int .i64 right] w (Goes D w gs g (.tuple #[.int .i64 (σ.next : Int), .int .i64 0]) (((σ.take ⟨xhp d nl.key nl.dig nr.dig left right (nl.size + nr.size), 1, []⟩).by i (-1)).by j (-1))) := by
  have HH := hZ h; have hcs := h.c; have GL : Hid (Got σ left nl σ.slots[i].val true) := hZ (.inl ⟨rfl, i, eL, hi, hnl, rfl, hcl⟩); have HE := hZ (And.intro eL hnl); have k1 : (left == 0) = false := by simp; omega
  have k3 : (nl.held == 0) = false := by simp; omega
  have l1 : 1 ≤ left := by omega
  have HLl := hZ l1; have HCl := hZ hcl; have HFl := hZ hfl; have HDl := hZ hhl; have HSl := hZ hsl; have GR : Hid (Got σ right nr σ.slots[j].val true) := hZ (.inl ⟨rfl, j, eR, hj, hnr, rfl, hcr⟩); have HR := hZ (And.intro eR hnr); have k2 : (right == 0) = false := by simp; omega
  have k4 : (nr.held == 0) = false := by simp; omega
  have l2 : 1 ≤ right := by omega
  have HRr := hZ l2; have HCr := hZ hcr; have HFr := hZ hfr; have HDr := hZ hhr; have HSr := hZ hsr; have HM := hZ hcm; have k5 : decide (255 < d) = false := by simp; omega
  clear h  eL hnl hcl hfl hhl hsl l1 eR hnr hcr hfr hhr hsr l2 hcm; have HL := Loc.start w; obtain ⟨w0, rfl⟩ := eW w; go_enter Tryz.func210, Tryz.ntmps210; go_upto_region 0 with fail; refine X32 ?_; go_upto_region 1 with fail; refine X47 ?_; intro K hK; refine X5t ?_; rintro e w ⟨rfl, rfl⟩; refine X23 ?_; clear hK K; go_upto_region 3 with fail; refine X1m ?_; refine X1o ?_; refine X3y ?_; go_upto_region 5 with fail; refine Xv ?_; refine xaa rfl _ (xc8 bs230 rfl) ?_; refine X5 ?_; refine xaa rfl _ (xc8 bs230 rfl) ?_; refine X5 ?_; refine xah xir rfl rfl HL ?_; clear HL; intro g10 w HL; refine X5 ?_; refine xah xir rfl rfl HL ?_; clear HL; intro g11 w HL; refine X5 ?_; refine X2s ?_; refine X3i ?_; clear HL; intro w HL; refine X4j ?_; refine X3j ?_; clear HL; intro w HL; go_upto_region 6 with fail; refine X14 ?_
  refine xaa rfl _ (xbf bs353 _ rfl _ (by exact xon _ _ rfl)) ?_; refine X17 ?_; refine xaa rfl _ (xbf bs353 _ rfl _ (by exact xon _ _ rfl)) ?_; refine X5 ?_; refine xty sl354 el353 (by decide) rfl _ _ rfl HL _ _ rfl rfl rfl rfl ?_; clear HL; intro g33 w HL; simp only [Act.eval, qa, qb, qc, qd, qe, qm, qn] at HL; refine Xw ?_; refine xaa rfl _ (xa8 Tryz.underlying354 _ rfl _ _ _ rfl) ?_; refine X1h ?_; go_wp2_with fail; refine wp_loop_rounds 3 ?_; rw [rounds_succ]; go_upto_region 7 with fail; refine Xv ?_; refine X2b ?_; go_upto_region 8 with fail; refine Xv ?_; refine xaa rfl _ (xbe sl354 _ _ rfl _ _ _ 0 _ rfl rfl (by decide)) ?_; refine X5 ?_; refine xaa rfl _ (xau ag353 HL _ rfl _ _ rfl _ _ [.int .i64 left, .pointer (some ⟨g10, 0, none⟩)] (.head _) rfl rfl) ?_; refine X5 ?_
  refine xah zr353 rfl rfl HL ?_; clear HL; intro g13 w HL; refine X5 ?_; refine X69 ?_; refine X3j ?_; clear HL; intro w HL; go_upto_region 9 with fail; refine Xv ?_; refine X6a ?_; refine X5 ?_; refine X6b ?_; refine X2c ?_; go_upto_region 10 with fail; refine X14 ?_; refine X6a ?_; refine X5 ?_; refine X6b ?_; refine X57 ?_; intro K hK; refine X4o ?_; (with_reducible refine (xgv (HH.out.sw.below HL.below) _ _ _ true GL.out).mono ?_); refine X4i ?_; clear hK K; intro w HL; refine xah xir rfl rfl HL ?_; clear HL; intro g14 w HL; refine X4l ?_; clear HL; intro w HL; go_upto_region 11 with fail; refine X1m ?_; refine X17 ?_; refine X6c ?_; refine X5 ?_; refine X6d ?_; refine X2d ?_; go_upto_region 13 with fail; refine Xv ?_; refine xaa rfl _ (xaf xr6 _ rfl _ rfl) ?_; refine X6e ?_; refine X5 ?_; refine X2w ?_; refine X18 ?_
  refine xa6 xe3 rfl _ _ rfl HL 4 _ _ _ _ rfl rfl rfl (Nd.len _) (Nd.len _) (Nd.one _) ?_; refine X3j ?_; clear HL; intro w HL; go_upto_region 14 with fail; refine Xv ?_; refine X1l ?_; refine X1h ?_; go_wp2_with fail; rw [rounds_succ]; go_upto_region 7 with fail; refine Xv ?_; refine X2b ?_; go_upto_region 8 with fail; refine Xv ?_; refine xaa rfl _ (xbe sl354 _ _ rfl _ _ _ 1 _ rfl rfl (by decide)) ?_; refine X5 ?_; refine xaa rfl _ (xau ag353 HL _ rfl _ _ rfl _ _ [.int .i64 right, .pointer (some ⟨g11, 0, none⟩)] (.tail _ (.tail _ (.head _))) rfl rfl) ?_; refine X5 ?_; refine xah zr353 rfl rfl HL ?_; clear HL; intro g13 w HL; refine X5 ?_; refine X69 ?_; refine X3j ?_; clear HL; intro w HL; go_upto_region 9 with fail; refine Xv ?_; refine X6a ?_; refine X5 ?_; refine X6b ?_; refine X2c ?_; go_upto_region 10 with fail; refine X14 ?_; refine X6a ?_
  refine X5 ?_; refine X6b ?_; refine X57 ?_; intro K hK; refine X4o ?_; (with_reducible refine (xgv (HH.out.sw.below HL.below) _ _ _ true GR.out).mono ?_); refine X4i ?_; clear hK K; intro w HL; refine xah xir rfl rfl HL ?_; clear HL; intro g14 w HL; refine X4l ?_; clear HL; intro w HL; go_upto_region 11 with fail; refine X1m ?_; refine X17 ?_; refine X6c ?_; refine X5 ?_; refine X6d ?_; refine X2d ?_; go_upto_region 13 with fail; refine Xv ?_; refine xaa rfl _ (xaf xr6 _ rfl _ rfl) ?_; refine X6e ?_; refine X5 ?_; refine X2w ?_; refine X18 ?_; refine xa6 xe3 rfl _ _ rfl HL 5 _ _ _ _ rfl rfl rfl (Nd.len _) (Nd.len _) (Nd.one _) ?_; refine X3j ?_; clear HL; intro w HL; go_upto_region 14 with fail; refine Xv ?_; refine X1l ?_; refine X1h ?_; go_wp2_with fail; rw [rounds_succ]; go_upto_region 7 with fail; refine Xv ?_; refine X2b ?_
  go_upto_region 15 with fail; refine X6f ?_; refine xaa rfl _ (xan xe3 HL _ rfl _ rfl _ _ (.tail _ (.tail _ (.tail _ (.tail _ (.tail _ (.tail _ (.head _))))))) (Nd.len _)) ?_; refine X5 ?_; refine xaa rfl _ (xan xe3 HL _ rfl _ rfl _ _ (.tail _ (.tail _ (.tail _ (.tail _ (.tail _ (.head _)))))) (Nd.len _)) ?_; refine X57 ?_; intro K hK; refine xad cf242 rfl _ rfl ?_; refine X1z ?_; (with_reducible refine (xtx nl nr d left right hd HLl.out HRr.out HFl.out HFr.out HM.out).mono ?_); refine X4d ?_; clear hK K; intro w HL; refine X2c ?_; go_upto_region 17 with fail; refine Xv ?_; refine X4z ?_; refine X5 ?_; refine xaa rfl _ (xau ag24 HL _ rfl _ _ rfl _ _ _ (.tail _ (.tail _ (.tail _ (.tail _ (.tail _ (.tail _ (.head _))))))) (Nd.g_key _) (D32.cl _)) ?_; refine X5 ?_; refine xah zr24 rfl rfl HL ?_; clear HL; intro g16 w HL
  refine X6h ?_; refine X3j ?_; clear HL; intro w HL; go_upto_region 18 with fail; refine X2r ?_; go_upto_region 20 with fail; refine X6j ?_; refine X4a ?_; intro K hK; refine xad cf219 rfl _ rfl ?_; refine X1z ?_; (with_reducible refine (xm8 _ nl.key (d : Int) (by omega)).mono ?_); refine X4i ?_; clear hK K; intro w HL; refine X6g ?_; refine X3j ?_; clear HL; intro w HL; have hB : Below w0.heap.size w0 w := HL.below; refine X5d ?_; intro hgs; have HO := fun y hy => (HL.own y hy).1
  have hSO : ∀ k, SbS g vs vf k → Old w0 k := fun k hk => HH.out.sb.lt k (HH.out.sb.own k hk)
  have HSB := hZ (HH.out.sb.below hB); have HSW := hZ ((HH.out.below hB).sw); refine X5e ?_; intro HX; clear HL; have HL := HX; clear HX; have HZ : Hid (nl.size + nr.size = nl.size + nr.size) := hZ rfl; have HQl := HSl.out; have HQr := HSr.out; obtain ⟨w1, rfl⟩ := eW w; go_upto_region 21 with fail; refine rB (Loc.P HL) [] [6, 9, 10, 22] [0, 1, 2, 3, 4, 5, 7, 8, 12, 13, 14, 15, 16, 17, 18, 19, 20, 6, 9, 10, 11, 21, 22, 23, 24, 25, 26, 27] 0 ?_; refine X3b ?_; intro HL; refine X5g ?_; refine X5 ?_; refine X5h ?_; refine X6k ?_; refine X38 ?_; refine X38 ?_; refine X38 ?_; refine X6l ?_; refine X6k ?_; refine xac rfl rfl HL (fun W hW => xaf xmz _ rfl _ rfl) ?_; refine X5 ?_; refine xac rfl rfl HL (fun W hW => xag sc3 hW _ rfl _ _ rfl _ _ _ (.tail _ (.tail _ (.tail _ (.tail _ (.tail _ (.tail _ (.tail _ (.head _)))))))) (Nd.g_size _)) ?_; refine X5 ?_
  refine xac rfl rfl HL (fun W hW => xaf xmz _ rfl _ rfl) ?_; refine X5 ?_; refine xac rfl rfl HL (fun W hW => xag sc3 hW _ rfl _ _ rfl _ _ _ (.tail _ (.tail _ (.tail _ (.tail _ (.tail _ (.tail _ (.head _))))))) (Nd.g_size _)) ?_; refine X5 ?_; refine xac rfl rfl HL (fun W hW => xbr _ _ rfl _ _ _ rfl rfl HZ.out (by omega)) ?_; refine Xk ?_; intro K hK; refine xad cf83 rfl _ rfl ?_; refine X1z ?_; (with_reducible refine (xic (HSW.out.below (Below.refl _ _).drew) left nl _ GL.out).mono ?_); refine X64 ?_; intro w hb HL hB1; clear hb; refine X6m ?_; clear hK K; intro K hK; refine xad cf83 rfl _ rfl ?_; refine X1z ?_; (with_reducible refine (xic (HSW.out.below hB1) right nr _ GR.out).mono ?_); refine X4b ?_; intro w hb HL; replace hB1 : Below w1.heap.size w1 w := hB1.trans (hb.mono hB1.size); clear hb; refine X6m ?_; clear hK K; intro K hK
  refine X6n ?_; (with_reducible refine (xhm _ nl.dig nr.dig).mono ?_); refine X4b ?_; intro w hb HL; replace hB1 : Below w1.heap.size w1 w := hB1.trans (hb.mono hB1.size); clear hb; refine X65 ?_; clear hK K; refine X66 ?_; refine xac rfl rfl HL (fun W hW => xbf bs230 _ rfl _ (by exact bd230_30 _ _ _ _ _ _)) ?_; refine Xk ?_; intro K hK; refine xad cf208 rfl _ rfl ?_; refine X1z ?_; (with_reducible refine (xsb (HSB.out.below hB1) (xhp d nl.key nl.dig nr.dig left right (nl.size + nr.size)) [] hroom (xtz _ _ _ _ _)).mono ?_); rintro e w ⟨D', vs', vf', rfl, hsb, hst, hf⟩; replace HL := HL.frame hf (fun k hk hd => hd.2 hk) (fun y hy e => HO y hy (hSO _ e)); refine X5i ?_; clear hK K; refine X3d ?_; refine X68 ?_; refine X68 ?_; refine X4y ?_; have hb2 : Blk w gs 256 [.pointer (some ⟨g, 0, none⟩)] := HL.far hgs HH.out.blk
  have hS1 : Stp D w0 D' w := (Stp.of_below hB).trans ((Stp.of_below hB1).trans hst); have hP1 : StP D' w gs g _ vs' vf' := ⟨hb2, hst.old _ HH.out.own, hsb⟩; clear HL HO hb2 hst hsb hB1 hB hf HSB HSW hgs hSO; obtain ⟨hi2, ei⟩ := xsf hN i hi HCl.out ⟨xhp d nl.key nl.dig nr.dig left right (nl.size + nr.size), 1, []⟩; obtain ⟨hj2, ej⟩ := xsf hN j hj HCr.out ⟨xhp d nl.key nl.dig nr.dig left right (nl.size + nr.size), 1, []⟩; go_upto_region 22 with fail; refine X2r ?_; go_upto_region 24 with fail; refine X2n ?_; intro K hK; refine X5j ?_; (with_reducible refine (xfi hP1 left (-1) i HE.out.1 hi2 (by rw [ei]; exact HCl.out) (by rw [ei, HE.out.2]; have := HDl.out; omega)).mono ?_); rintro e w ⟨rfl, hP2, hf2⟩; rw [Sb.call_by] at hP2; have hS2 := hS1.trans (Stp.of_fr hf2 fun k hk => hP1.sb.own k hk); clear hf2 hS1 hP1; obtain ⟨hj3, ek⟩ := by_at i j (-1) hj2 hne
  refine X23 ?_; clear hK K; go_upto_region 25 with fail; refine X2n ?_; intro K hK; refine X5j ?_; (with_reducible refine (xfi hP2 right (-1) j HR.out.1 hj3 (by rw [ek, ej]; exact HCr.out) (by rw [ek, ej, HR.out.2]; have := HDr.out; omega)).mono ?_); rintro e w ⟨rfl, hP3, hf3⟩; rw [Sb.call_by] at hP3; have hS3 := hS2.trans (Stp.of_fr hf3 fun k hk => hP2.sb.own k hk); clear hf3 hS2 hP2; refine X23 ?_; clear hK K; go_upto_region 26 with fail; refine X3s ?_; go_wp2_with fail; go_ret2; exact ⟨_, _, _, rfl, hP3, hS3⟩
end
section
variable {D : Nat → Prop} {w w' : World} {gs g : Nat} {σ : Sb} {vs vf : Sv}
def Sb.less (σ : Sb) (i : Nat) : Sb := { σ with slots := σ.slots.modify i fun e => ⟨{ e.nd with held := e.nd.held - 1 }, e.count - 1, e.val⟩ }
theorem Sb.less_eq (i : Nat) (hi : i < σ.slots.length) : (σ.call i hi (-1)).put i ⟨{ σ.slots[i].nd with held := σ.slots[i].nd.held + -1 }, σ.slots[i].count - 1, σ.slots[i].val⟩ = σ.less i := by
  unfold Sb.call Sb.less Sb.put; simp only [List.set_set]; congr 1; apply List.ext_getElem (by simp); intro k h1 h2; rw [List.getElem_modify, List.getElem_set]
  split
  · next e => subst e; rfl
  · rfl
theorem xna (h : StP D w gs g σ vs vf) (z : Int) (i : Nat) (hz : z = (i : Int) + 1) (hi : i < σ.slots.length) (hc : 1 < σ.slots[i].count) (hmax : σ.slots[i].count < 1099511627776) (hh : 0 < σ.slots[i].nd.held ∧ σ.slots[i].nd.held ≤ 4611686018427387904) :
    Calls Tryz.prog 130 #[.pointer (some ⟨gs, 0, none⟩), .int .i64 z] w (Goes D w gs g (.tuple #[.int .i64 0, .int .i64 0]) (σ.less i)) := by
  have HH := hZ h; have GL : Hid (Got σ z σ.slots[i].nd σ.slots[i].val true) := hZ (.inl ⟨rfl, i, hz, hi, rfl, rfl, by omega⟩); have k3 : (σ.slots[i].nd.held == 0) = false := by simp; omega
  have HZ := hZ (And.intro hz (And.intro hc (And.intro hmax hh))); clear h hz hc hmax hh; have HL := Loc.start w; obtain ⟨w0, rfl⟩ := eW w; go_enter Tryz.func130, Tryz.ntmps130; go_upto_region 0 with fail; refine X32 ?_; go_upto_region 1 with fail; refine X47 ?_; intro K hK; refine X5t ?_; rintro e w ⟨rfl, rfl⟩; refine X23 ?_; clear hK K; go_upto_region 3 with fail; refine X4p ?_; intro K hK; (with_reducible refine (xgv (HH.out.sw.below HL.below) _ _ _ true GL.out).mono ?_); refine X4n ?_; clear hK K; intro g6 w HL; go_upto_region 4 with fail; refine X1m ?_; refine X17 ?_; refine X6c ?_; refine X5 ?_; refine X6d ?_; refine X2d ?_; have hP1 := HH.out.below HL.below; have hS1 : Stp D w0 D w := Stp.of_below HL.below; clear HL; go_upto_region 6 with fail; refine X2n ?_; intro K hK; refine X5j ?_
  (with_reducible refine (xfi hP1 z (-1) i HZ.out.1 hi (by have := HZ.out.2.1; omega) (by have := HZ.out.2.2.2; omega)).mono ?_); rintro e w ⟨rfl, hP2, hf2⟩; have hS2 := hS1.trans (Stp.of_fr hf2 fun k hk => hP1.sb.own k hk); clear hf2 hS1 hP1; refine X23 ?_; clear hK K; have hcs := hP2.c; have HP := hZ hP2; clear hP2; have hi2 : i < (σ.call i hi (-1)).slots.length := by simpa [Sb.call, Sb.put] using hi
  have ei : (σ.call i hi (-1)).slots[i] = ⟨{ σ.slots[i].nd with held := σ.slots[i].nd.held + -1 }, σ.slots[i].count, σ.slots[i].val⟩ := by simp [Sb.call, Sb.put]
  have HE := hZ ei; have G2 : Hid (Got (σ.call i hi (-1)) z (σ.call i hi (-1)).slots[i].nd (σ.call i hi (-1)).slots[i].val true) := hZ (.inl ⟨rfl, i, HZ.out.1, hi2, rfl, rfl, by rw [ei]; have := HZ.out.2.1; simp only; omega⟩); clear ei; have HL := Loc.start w; obtain ⟨w2, rfl⟩ := eW w; go_upto_region 7 with fail; refine X1k ?_; go_upto_region 8 with fail; refine X14 ?_; refine xj2 sl71 el3 rfl _ rfl HL _ rfl rfl ?_; clear HL; intro g36 w HL; (try simp only [Act.eval, qa, qb, qc, qd, qe] at HL); refine X1c ?_; go_wp2_with fail; refine wp_loop_rounds 2 ?_; rw [rounds_succ]; go_upto_region 9 with fail; refine X14 ?_; refine X3m ?_; refine X2c ?_; go_upto_region 10 with fail; refine X1b ?_; refine X3m ?_; refine X27 ?_; refine X5 ?_; refine xaa rfl _ (xbe sl71 _ _ rfl _ _ _ 0 _ rfl rfl (by decide)) ?_; refine X5 ?_; refine X6b ?_; refine X1c ?_; go_upto_region 11 with fail
  refine X1b ?_; refine X3m ?_; refine X27 ?_; refine X5 ?_; refine xaa rfl _ (xdv sl71 _ _ rfl _ 1 1 0 .i64 rfl rfl (by omega)) ?_; refine X1c ?_; go_upto_region 12 with fail; refine X4p ?_; intro K hK; (with_reducible refine (xgv (HP.out.sw.below HL.below) _ _ _ true G2.out).mono ?_); refine X4i ?_; clear hK K; intro w HL; refine xah xir rfl rfl HL ?_; clear HL; intro g11 w HL; refine X4l ?_; clear HL; intro w HL; go_upto_region 13 with fail; refine X16 ?_; refine X48 ?_; refine X5 ?_; refine X49 ?_; refine X4a ?_; intro K hK; refine xad cf190 rfl _ rfl ?_; refine X1z ?_; (with_reducible refine (xm4 (HP.out.sb.below HL.below) z i HZ.out.1 hi2 (by rw [HE.out]; exact HZ.out.2.1) (by rw [HE.out]; exact HZ.out.2.2.1)).mono ?_); rintro e w ⟨rfl, hsb, hf⟩
  have hP3 : StP D w gs g _ vs vf := ⟨(HP.out.below HL.below).blk.fr hf HP.out.sbs, HP.out.own, hsb⟩; have hS3 := hS2.trans ((Stp.of_below HL.below).trans (Stp.of_fr hf fun k hk => HP.out.sb.own k hk)); clear HL hsb hf hS2; refine X6o ?_; clear hK K; go_wp2_with fail; rw [rounds_succ]; go_upto_region 9 with fail; refine X14 ?_; refine X3m ?_; refine X2c ?_; go_upto_region 22 with fail; refine X3s ?_; go_wp2_with fail; go_ret2
  have e : (σ.call i hi (-1)).put i ⟨(σ.call i hi (-1)).slots[i].nd, (σ.call i hi (-1)).slots[i].count - 1, (σ.call i hi (-1)).slots[i].val⟩ = σ.less i := by
    rw [HE.out]; exact Sb.less_eq i hi
  rw [e] at hP3; exact ⟨_, _, _, rfl, hP3, hS3⟩
end
section
variable {D : Nat → Prop} {w w' : World} {gs g : Nat} {σ : Sb} {vs vf : Sv}
def sdO (key : D32) (d : Nat) (n : Nd) : Int := if tb key.l d then n.right else n.left
def sdX (key : D32) (d : Nat) (n : Nd) : Int := if tb key.l d then n.left else n.right
theorem other_ok (h : StW D w gs σ) (z : Int) (n : Nd) (val : List UInt8) (hG : Got σ z n val true) (d : Nat) (hd : d < 256) (hn : n.depth = (d : Int)) (key : D32) :
    Calls Tryz.prog 212 #[.pointer (some ⟨gs, 0, none⟩), .int .i64 z, key.a] w fun e w' => e = .returned (.tuple #[.int .i64 (sdO key d n), .int .i64 (sdX key d n)]) ∧ Below w.heap.size w w' := by
  have hE : tb key.l d = true ∨ tb key.l d = false := by cases tb key.l d <;> simp
  have HGG := hZ hG; have HH := hZ h; rcases hE with hE | hE
  · have e1 : sdO key d n = n.right := by unfold sdO; simp [hE]
    have e2 : sdX key d n = n.left := by unfold sdX; simp [hE]
    rw [e1, e2]; have C := fun u => hZ (xf0 u key d hd)
    rw [hE] at C; have CD := fun (u : World) (hu : StW D u gs σ) => hZ (xoz hu z n val hG)
    rw [hn] at CD; clear hE e1 e2 hn h hG; have HL := Loc.start w; obtain ⟨w0, rfl⟩ := eW w; go_enter Tryz.func212, Tryz.ntmps212; go_upto_region 0 with fail; refine Xv ?_; refine X2x ?_; clear HL; intro g5 w HL; refine X1j ?_; go_upto_region 1 with fail; refine X2n ?_; intro K hK; refine xad cf138 rfl _ rfl ?_; refine X6p ?_; refine X4i ?_; clear hK K; intro w HL; refine X1i ?_; have HB := HL.below; go_upto_region 2 with fail; refine X6q ?_; intro HL; refine X6l ?_; refine X6k ?_; refine Xj ?_; intro K hK; refine xad cf243 rfl _ rfl ?_; refine X1z ?_; (with_reducible refine ((CD _ (HH.out.below HB.drew)).out).mono ?_); refine X6r ?_; clear hK K; intro w HL K hK; refine X5m ?_; refine X6s ?_; clear hK K; intro w HL; refine X6t ?_; go_upto_region 4 with fail; refine X1b ?_; refine X1i ?_; go_wp2_with fail; go_ret2; exact ⟨rfl, HL.below⟩
  · have e1 : sdO key d n = n.left := by unfold sdO; simp [hE]
    have e2 : sdX key d n = n.right := by unfold sdX; simp [hE]
    rw [e1, e2]; have C := fun u => hZ (xf0 u key d hd)
    rw [hE] at C; have CD := fun (u : World) (hu : StW D u gs σ) => hZ (xoz hu z n val hG)
    rw [hn] at CD; clear hE e1 e2 hn h hG; have HL := Loc.start w; obtain ⟨w0, rfl⟩ := eW w; go_enter Tryz.func212, Tryz.ntmps212; go_upto_region 0 with fail; refine Xv ?_; refine X2x ?_; clear HL; intro g5 w HL; refine X1j ?_; go_upto_region 1 with fail; refine X2n ?_; intro K hK; refine xad cf138 rfl _ rfl ?_; refine X6p ?_; refine X4i ?_; clear hK K; intro w HL; refine X1i ?_; have HB := HL.below; go_upto_region 2 with fail; refine X6q ?_; intro HL; refine X6l ?_; refine X6k ?_; refine Xj ?_; intro K hK; refine xad cf243 rfl _ rfl ?_; refine X1z ?_; (with_reducible refine ((CD _ (HH.out.below HB.drew)).out).mono ?_); refine X6r ?_; clear hK K; intro w HL K hK; refine X5m ?_; refine X6s ?_; clear hK K; intro w HL; refine X6t ?_; go_upto_region 3 with fail; refine X1b ?_; refine X1i ?_; go_wp2_with fail; go_ret2; exact ⟨rfl, HL.below⟩
inductive Way (σ : Sb) (key : D32) : Int → List Int → Int → Prop
  | stop (z : Int) (n : Nd) (val : List UInt8) (ok : Bool) : Got σ z n val ok → n.kind ≠ 2 → Way σ key z [] z
  | step (z : Int) (n : Nd) (val : List UInt8) (d : Nat) (l : List Int) (e : Int) : Got σ z n val true → n.kind = 2 → d < 256 → n.depth = (d : Int) → Way σ key (sdO key d n) l e → Way σ key z (z :: l) e
def iZ (l : List Int) : List Value := l.map fun z => .int .i64 z
theorem xqx (h : StW D w gs σ) (root : Int) (key : D32) (way : List Int) (fin : Int) (hway : Way σ key root way fin) (hl : way.length ≤ 4096)
    (hroot : ∀ u, StW D u gs σ → Calls Tryz.prog 154 #[.pointer (some ⟨gs, 0, none⟩), .int .i64 root] u fun e w' => e = .returned (.int .i64 0) ∧ Below u.heap.size u w') :
    Calls Tryz.prog 152 #[.pointer (some ⟨gs, 0, none⟩), .int .i64 root, key.a] w fun e w' => ∃ v : Sv, e = .returned (.tuple #[v.v, .int .i64 fin, .int .i64 0]) ∧ w'.ownsRow 0 3 1 v.v way.length (iZ way) ∧ (∀ k, v.v.ownBlock = some k → w.heap.size ≤ k) ∧ Below w.heap.size w w' := by
  have HH := hZ h; have HR := hZ hroot; have HW := hZ hway; clear h hroot hway; have HL := Loc.start w; obtain ⟨w0, rfl⟩ := eW w; go_enter Tryz.func152, Tryz.ntmps152; go_upto_region 0 with fail; refine Xv ?_; refine X2x ?_; clear HL; intro g5 w HL; refine X5 ?_; refine X6u ?_; have hK0 : Blk w g5 24 key.c := HL.blk (.head _); have hB0 : Below w0.heap.size w0 w := HL.below; have hg5 : w0.heap.size ≤ g5 := Nat.le_of_not_lt (HL.own _ (.head _)).1; clear HL; have HL := Loc.start w; obtain ⟨w1, rfl⟩ := eW w; go_upto_region 1 with fail; refine X2n ?_; intro K hK; refine X6v ?_; (with_reducible refine (HR.out _ ((HH.out.below hB0).below HL.below)).mono ?_); refine X6w ?_; clear hK K; intro w HL; go_upto_region 4 with fail; refine X6x ?_; have hB1 : Below w0.heap.size w0 w := hB0.trans (HL.below.mono hB0.size); have hK1 : Blk w g5 24 key.c := HL.farO hK0; clear HL hB0 hK0; go_wp2_with fail
  go_loopw [6, 7] (fun v z wr => ∃ (s : Sv) (done rest : List Int) (h : Int), v = s.v ∧ z = .int .i64 h ∧ done ++ rest = way ∧ Way σ key h rest fin ∧ wr.ownsRow 0 3 1 s.v done.length (iZ done) ∧ (∀ k, s.v.ownBlock = some k → w0.heap.size ≤ k ∧ k ≠ g5) ∧ Blk wr g5 24 key.c ∧ Below w0.heap.size w0 wr) (fun v _ _ => way.length - (match v with | .slice _ n _ => n | _ => 0))
  case atStart => exact ⟨Sv.nil, [], way, root, rfl, rfl, rfl, HW.out, ⟨rfl, .inl ⟨rfl, rfl⟩⟩, fun k hk => by simp [Sv.nil, Sv.v, Value.ownBlock] at hk, hK1, hB1⟩
  case round =>
    obtain ⟨s, done, rest, z, rfl, rfl, hcat, hW, ho, hs, hK, hB⟩ := hrel; have hlen : done.length + rest.length = way.length := by rw [← hcat]; simp
    have hsn := xe5 ho; have HC := hZ hcat; have HO := hZ ho; clear hcat hB1 hK1 ho; have HL := Loc.start wr; obtain ⟨w, rfl⟩ := eW wr; obtain ⟨w2, rfl⟩ := eW w
    cases hW with
    | stop _ n val ok hG hk =>
      have HG := hZ hG; have k1 : ((n.kind : Int) == 2) = false := by simp; omega
      have HKn := hZ hk; clear hG hk; go_upto_region 5 with fail; refine X2n ?_; intro K hK; refine X6y ?_; (with_reducible refine (xjf ((HH.out.below hB).below HL.below) _ n val ok HG.out).mono ?_); refine X4d ?_; clear hK K; intro w HL; refine X22 ?_; go_upto_region 7 with fail; refine X6z ?_; go_upto_region 6 with fail; refine X1b ?_; refine X6u ?_; go_wp2_with fail
      go_ret3
      have e : done = way := by rw [← HC.out]; simp
      subst e; exact ⟨s, rfl, xbq HO.out (fun k hk => HL.heap (by have := (xcd HO.out hk); obtain ⟨cs, hc⟩ := this; exact hc.lt)), fun k hk => (hs k hk).1, hB.trans (HL.below.mono hB.size)⟩
    | step _ n val d rest' _ hG hk hd hn hW2 =>
      have HG := hZ hG; have HN := hZ hn; have HW2 := hZ hW2; have k1 : ((n.kind : Int) == 2) = true := by rw [hk]; rfl
      clear hG hk hn hW2; go_upto_region 5 with fail; refine X2n ?_; intro K hK; refine X6y ?_; (with_reducible refine (xjf ((HH.out.below hB).below HL.below) _ n val true HG.out).mono ?_); refine X4d ?_; clear hK K; intro w HL; refine X22 ?_; go_upto_region 7 with fail; refine X6z ?_; go_upto_region 8 with fail; refine X1b ?_; refine xj2 sl71 el3 rfl _ rfl HL _ rfl rfl ?_; clear HL; intro g25 w HL; (try simp only [Act.eval, qa, qb, qc, qd, qe] at HL); refine X5 ?_; refine wpList_plain rfl fun K hK2 => ?_
      refine xfg sl71 el3 _ _ rfl s done.length (iZ done) rfl (xbq HO.out (fun k hk => HL.heap (by obtain ⟨cs, hc⟩ := xcd HO.out hk; exact hc.lt))) ⟨g25, 0, none⟩ 1 1 [.int .i64 z] rfl (Rd.of_blk0 (es := []) (HL.blk (.head _))) rfl (by simp [Value.oneCell']) (by omega) (by simp only [qr] at hlen; omega) (by simp only [qr] at hlen; omega) ?_; intro s' w' ho' hg' hk' hlt'; refine hK2 _ _ ?_; clear hK2 K; refine X12 ?_; have hs2 := ho'; rw [show iZ done ++ [Value.int .i64 z] = iZ (done ++ [z]) by simp [iZ]] at hs2; have hBx : Below w0.heap.size w0 w' := (hB.trans (HL.below.mono hB.size)).grown hg' (Nat.le_trans hB.size HL.fr.size) (fun k hk => (hs k hk).1); have hK2 : Blk w' g5 24 key.c := (HL.farO hK).grown hg' (fun e => (hs _ e.symm).2 rfl); have hg5lt : g5 < w.heap.size := (HL.farO hK).lt
      have hs' : ∀ k, s'.v.ownBlock = some k → w0.heap.size ≤ k ∧ k ≠ g5 := fun k hk => by
        rcases hk' k hk with h1 | h1
        · exact hs k h1
        · have := hBx.size
          exact ⟨by have h2 := Nat.le_trans hB.size HL.fr.size; omega, by omega⟩
      have HO2 := hZ hs2; clear HL ho' hg' hk' hs2 HO hK hB; have HL := Loc.start w'; obtain ⟨w, rfl⟩ : ∃ w, w = w' := ⟨_, rfl⟩; obtain ⟨w3, rfl⟩ := eW w; go_upto_region 9 with fail; refine X1b ?_; refine xaa rfl _ (xgc ag24 HL _ rfl _ _ rfl _ _ _ hK2.lt hK2 (by rw [List.drop_zero, List.take_of_length_le (by rw [D32.cl]; omega)]) (D32.cl _)) ?_; refine X57 ?_; intro K hK; refine xad cf212 rfl _ rfl ?_; refine X1z ?_; (with_reducible refine (other_ok ((HH.out.below hBx).below HL.below) _ n val HG.out d hd HN.out key).mono ?_); refine X5n ?_; clear hK K; intro w HL; refine X4f ?_; refine X4e ?_; refine X1c ?_; go_wp2_with fail; go_roundw
      case rel => exact ⟨s', done ++ [z], rest', _, rfl, rfl, by rw [← HC.out]; simp, HW2.out, by rw [List.length_append]; exact xbq HO2.out (fun k hk => HL.heap (by obtain ⟨cs, hc⟩ := xcd HO2.out hk; exact hc.lt)), hs', HL.farO hK2, hBx.trans (HL.below.mono hBx.size)⟩
      case measure =>
        have h1 := xe5 HO2.out; simp only [qr] at hlen; have h2 : s'.n = s.n + 1 := by rw [h1, hsn]
        have h3 : s.n < way.length := by omega
        show way.length - s'.n < way.length - s.n; omega
end
section
variable {P : Program} {w : World} {a : Act} {o : Oper}
theorem xnb {T T' n : Nat} (B : AB P T n) (x y : Operand) (ho : o.op = .binOp .neq T x y T') (xs ys : List UInt8) (ex : a.eval x = .agg (bvs xs).toArray) (ey : a.eval y = .agg (bvs ys).toArray) (hx : xs.length = n) (hy : ys.length = n) :
    (execOp a.eval o).run P w = .ok (.value (.bool (!(xs == ys)))) w := by
  have hr := AB.run (w := w) B xs ys hx hy
  have hg : (eqGuard .neq T x y (.agg (bvs xs).toArray) (.agg (bvs ys).toArray)).run P w = .ok () w := by
    simp [eqGuard, B.g]
  have hn : (binOp .neq T (.agg (bvs xs).toArray) (.agg (bvs ys).toArray)).run P w = .ok (.bool (!(xs == ys))) w := by
    have h1 : (Op.equal T (.agg (bvs xs).toArray) (.agg (bvs ys).toArray)).run P w = .ok (xs == ys) w := by
      have h2 : binOp .eql T (.agg (bvs xs).toArray) (.agg (bvs ys).toArray) = (do pure (.bool (← Op.equal T (.agg (bvs xs).toArray) (.agg (bvs ys).toArray)))) := rfl; rw [h2] at hr; simp only [Sem.run_bind] at hr; generalize (Op.equal T (.agg (bvs xs).toArray) (.agg (bvs ys).toArray)).run P w = r at hr
      cases r with
      | ok b w' => simp at hr; rw [hr.1, hr.2]
      | halt h w' => simp [Result.andThen] at hr
    have h3 : binOp .neq T (.agg (bvs xs).toArray) (.agg (bvs ys).toArray) = (do pure (.bool (!(← Op.equal T (.agg (bvs xs).toArray) (.agg (bvs ys).toArray))))) := rfl; rw [h3]; simp only [Sem.run_bind, h1, Result.andThen_ok, Sem.run_pure]
  unfold execOp; simp only [ho, ex, ey, Sem.run_bind, hg, Result.andThen_ok, hn, Sem.run_pure]
theorem xcj {t t' : TypeId} {b : Bool} {k : IntKind} (x y : Operand) (ho : o.op = .binOp .lss t x y t') (m n : Int) (hx : a.eval x = .int k m) (hy : a.eval y = .int k n) (hb : decide (m < n) = b) : (execOp a.eval o).run P w = .ok (.value (.bool b)) w := by
  subst hb; unfold execOp; simp only [ho, hx, hy]; go_simp
theorem xa4 {t t' : TypeId} {b : Bool} {k : IntKind} (x y : Operand) (ho : o.op = .binOp .gtr t x y t') (m n : Int) (hx : a.eval x = .int k m) (hy : a.eval y = .int k n) (hb : decide (n < m) = b) : (execOp a.eval o).run P w = .ok (.value (.bool b)) w := by
  subst hb; unfold execOp; simp only [ho, hx, hy]; go_simp
theorem xd2 {t t' : TypeId} {b : Bool} {k : IntKind} (x y : Operand) (ho : o.op = .binOp .leq t x y t') (m n : Int) (hx : a.eval x = .int k m) (hy : a.eval y = .int k n) (hb : decide (m ≤ n) = b) : (execOp a.eval o).run P w = .ok (.value (.bool b)) w := by
  subst hb; unfold execOp; simp only [ho, hx, hy]; go_simp
theorem xc3 {t t' : TypeId} {b : Bool} {k : IntKind} (x y : Operand) (ho : o.op = .binOp .geq t x y t') (m n : Int) (hx : a.eval x = .int k m) (hy : a.eval y = .int k n) (hb : decide (n ≤ m) = b) : (execOp a.eval o).run P w = .ok (.value (.bool b)) w := by
  subst hb; unfold execOp; simp only [ho, hx, hy]; go_simp
theorem xao {t t' : TypeId} {b : Bool} {k : IntKind} (x y : Operand) (ho : o.op = .binOp .eql t x y t') (m n : Int) (hx : a.eval x = .int k m) (hy : a.eval y = .int k n) (hb : (m == n) = b) : (execOp a.eval o).run P w = .ok (.value (.bool b)) w := by
  subst hb; unfold execOp; simp only [ho, hx, hy]; go_simp
theorem xcn {T T' : Nat} (B : AB P T 32) (x y : Operand) (ho : o.op = .binOp .eql T x y T') (p q : D32) (ex : a.eval x = .agg p.c.toArray) (ey : a.eval y = .agg q.c.toArray) (b : Bool) (h : (p.l == q.l) = b) :
    (execOp a.eval o).run P w = .ok (.value (.bool b)) w := by rw [xd8 B x y ho p.l q.l ex ey p.h q.h, h]
theorem xdn {T T' : Nat} (B : AB P T 32) (x y : Operand) (ho : o.op = .binOp .neq T x y T') (p q : D32) (ex : a.eval x = .agg p.c.toArray) (ey : a.eval y = .agg q.c.toArray) (b : Bool) (h : (!(p.l == q.l)) = b) :
    (execOp a.eval o).run P w = .ok (.value (.bool b)) w := by rw [xnb B x y ho p.l q.l ex ey p.h q.h, h]
end
section
variable {D : Nat → Prop} {w w' : World} {gs g : Nat} {σ : Sb} {vs vf : Sv}
theorem fits_ok (h : StW D w gs σ) (hr : 1 ≤ σ.room ∧ σ.room ≤ 65536) (j : Nat) (hj : j ≤ 64) (hu : σ.used ≤ 65536) (b : Bool) (hb : decide ((σ.used : Int) + 258 * (j : Int) ≤ (σ.room : Int)) = b) :
    Calls Tryz.prog 144 #[.pointer (some ⟨gs, 0, none⟩), .int .i64 (j : Int)] w fun e w' => e = .returned (.bool b) ∧ w = w' := by
  have HH := hZ h; have k1 : decide ((0 : Int) < (σ.room : Int)) = true := by simp; omega
  have k2 : decide ((j : Int) ≤ 64) = true := by simp; omega
  have k3 : decide ((0 : Int) ≤ (j : Int)) = true := by simp
  have HB := hZ hb; have HI : Hid ((σ.used : Int) + 258 * (j : Int) = (σ.used : Int) + 258 * (j : Int)) := hZ rfl; have HM : Hid ((258 : Int) * (j : Int) = 258 * (j : Int)) := hZ rfl; clear h hb; go_enter Tryz.func144, Tryz.ntmps144; have HL := Loc.start w; go_upto_region 0 with fail; refine X1k ?_; go_upto_region 1 with fail; refine X1y ?_; intro K hK; refine X70 ?_; (with_reducible refine (xho HH.out).mono ?_); rintro e w ⟨rfl, rfl⟩; refine X5q ?_; clear hK K; refine X71 ?_; refine X1o ?_; refine xab rfl _ (xc3 (b := true) _ _ rfl _ _ rfl rfl k3) ?_; refine X72 ?_; refine xab rfl _ (xd2 (b := true) _ _ rfl _ _ rfl rfl k2) ?_; refine X72 ?_; refine X5o ?_; intro K hK; refine xad cf96 rfl _ rfl ?_; refine X1z ?_; (with_reducible refine (xiu HH.out).mono ?_); rintro e w ⟨rfl, rfl⟩; refine X5q ?_; clear hK K; refine X1n ?_
  refine xab rfl _ (xe2 _ _ rfl _ _ _ rfl rfl HM.out (by omega)) ?_; refine X5 ?_; refine xab rfl _ (xbr _ _ rfl _ _ _ rfl rfl HI.out (by omega)) ?_; refine X2a ?_; refine X5o ?_; intro K hK; refine X70 ?_; (with_reducible refine (xho HH.out).mono ?_); rintro e w ⟨rfl, rfl⟩; refine X5q ?_; clear hK K; refine xab rfl _ (xd2 _ _ rfl _ _ rfl rfl HB.out) ?_; refine X1v ?_; go_wp2_with fail; go_ret; exact ⟨rfl, rfl⟩
theorem athand0 (h : StW D w gs σ) : Calls Tryz.prog 143 #[.pointer (some ⟨gs, 0, none⟩), .int .i64 0] w fun e w' => e = .returned (.int .i64 0) ∧ w = w' := by
  have HH := hZ h; clear h; have HL := Loc.start w; go_enter Tryz.func143, Tryz.ntmps143; go_upto_region 0 with fail; refine X1k ?_; go_upto_region 1 with fail; refine X2n ?_; intro K hK; refine X6v ?_; (with_reducible refine (xo0 HH.out).mono ?_); rintro e w ⟨rfl, rfl⟩; refine X2q ?_; clear hK K; go_upto_region 2 with fail; refine X2r ?_; go_upto_region 4 with fail; refine X1m ?_; refine X73 ?_; go_upto_region 6 with fail; refine X1k ?_; go_wp2_with fail; go_ret; exact ⟨rfl, rfl⟩
theorem athand (h : StW D w gs σ) (z : Int) (n : Nd) (val : List UInt8) (hG : Got σ z n val true) (hd : n.kind = 1 ∨ (n.kind = 2 ∧ n.depth = 0)) (hh : n.held ≠ 0) : Calls Tryz.prog 143 #[.pointer (some ⟨gs, 0, none⟩), .int .i64 z] w fun e w' => e = .returned (.int .i64 0) ∧ Below w.heap.size w w' := by
  have HH := hZ h; have HG := hZ hG; have HD := hZ hd
  have k1 : (z == 0) = false := by
    rcases hG with ⟨_, i, hz, _⟩ | ⟨e, _⟩
    · simp; omega
    · cases e
  have k2 : (n.held == 0) = false := by simpa using hh
  clear h hG hd hh; have HL := Loc.start w; obtain ⟨w0, rfl⟩ := eW w; go_enter Tryz.func143, Tryz.ntmps143; go_upto_region 0 with fail; refine X1k ?_; go_upto_region 1 with fail; refine X2n ?_; intro K hK; refine X6v ?_; (with_reducible refine (xm9 (HH.out.below HL.below) z n val HG.out HD.out).mono ?_); refine X6w ?_; clear hK K; intro w HL; go_upto_region 2 with fail; refine X2r ?_; go_upto_region 4 with fail; refine X14 ?_; refine X74 ?_; refine X75 ?_; intro K hK; refine xad cf207 rfl _ rfl ?_; refine X1z ?_; (with_reducible refine (st_held (HH.out.below HL.below) z n val true HG.out).mono ?_); refine X5x ?_; clear hK K; intro w HL; refine X3y ?_; go_upto_region 6 with fail; refine X1k ?_; go_wp2_with fail; go_ret; exact ⟨rfl, HL.below⟩
theorem Loc.belowR {w1 w : World} {L0 L : List (Nat × Nat × List Value)} (H : Loc w1 (Rest w1 L0) L w) (n : Nat) (hn : n ≤ w1.heap.size) (h0 : ∀ x ∈ L0, n ≤ x.1) : Below n w1 w :=
  ⟨H.fr.os, H.fr.tape, H.fr.output, H.fr.size, fun k hk => H.heap ⟨by omega, fun x hx e => by have := h0 x hx; omega⟩⟩
theorem xt0 (h : StW D w gs σ) (root : Int) (key : D32) (A : Option Addr) (m c : Nat) (way : List Int) (fin : Int) (hway : Way σ key root way fin) (hl : way.length ≤ 4096)
    (hroot : ∀ u, StW D u gs σ → Calls Tryz.prog 154 #[.pointer (some ⟨gs, 0, none⟩), .int .i64 root] u fun e w' => e = .returned (.int .i64 0) ∧ Below u.heap.size u w')
    (n : Nd) (val : List UInt8) (ok : Bool) (hG : Got σ fin n val ok) (hk : n.kind ≠ 1) :
    Calls Tryz.prog 145 #[.pointer (some ⟨gs, 0, none⟩), .int .i64 root, key.a, .slice A m c] w fun e w' => ∃ v : Sv, e = .returned (.agg (Plc.cells ⟨v, fin, false, false⟩).toArray) ∧ w'.ownsRow 0 3 1 v.v way.length (iZ way) ∧ (∀ k, v.v.ownBlock = some k → w.heap.size ≤ k) ∧ Below w.heap.size w w' := by
  have HH := hZ h; have HR := hZ hroot; have HW := hZ hway; have HG := hZ hG; have k1 : ((n.kind : Int) == 1) = false := by simp; omega
  clear h hroot hway hG hk; have HL := Loc.start w; obtain ⟨w0, rfl⟩ := eW w; go_enter Tryz.func145, Tryz.ntmps145; go_upto_region 0 with fail; refine Xv ?_; refine X76 ?_; clear HL; intro g6 w HL; refine X5 ?_; refine xah zr246 rfl rfl HL ?_; clear HL; intro g8 w HL; refine X22 ?_; refine X77 ?_; intro hg6 hg8; have hg8l : g8 < w.heap.size := (HL.blk (.head _)).lt; refine X78 ?_; intro h68 hg6l; go_upto_region 1 with fail; refine X1b ?_; refine X79 ?_; refine X57 ?_; intro K hK; refine xad cf152 rfl _ rfl ?_; refine X1z ?_; refine X7a ?_; rintro e w ⟨v, rfl, ho, hvb, hb⟩; have hB1 : Below w0.heap.size w0 w := HL.below.trans (hb.mono HL.below.size)
  have hv8 : ∀ k, v.v.ownBlock = some k → w0.heap.size ≤ k ∧ k ≠ g8 ∧ k ≠ g6 := fun k hk => by
    have := hvb k hk; have := HL.below.size; omega
  replace HL := HL.redo (T := fun _ => False) (Fr.of_below hb) (fun _ _ f => f); clear hb hvb; have HO := hZ ho; clear ho; obtain ⟨w1, rfl⟩ := eW w; refine X7b ?_; clear hK K; refine X7c ?_; refine X5 ?_; refine xaw sc71 rfl _ _ rfl HL 0 _ _ _ _ _ _ rfl rfl rfl rfl (by rw [Plc.len]; decide) (Plc.s_above _ _) ?_; refine X3i ?_; clear HL; intro w HL; refine X7d ?_; refine X5 ?_; refine xaw sc3 rfl _ _ rfl HL 0 _ _ _ _ _ _ rfl rfl rfl rfl (by rw [Plc.len]; decide) (Plc.s_fin _ _) ?_; refine X3j ?_; clear HL; intro w HL
  have hL0 : ∀ x ∈ [(g8, 246, Plc.z.cells), (g6, 24, key.c)], w0.heap.size ≤ x.1 := by
    intro x hx; simp at hx; rcases hx with rfl | rfl
    · exact hg8
    · exact hg6
  go_upto_region 2 with fail; refine X14 ?_; refine X7d ?_; refine X5 ?_; refine X7e ?_; refine X57 ?_; intro K hK; refine X6y ?_; refine X7f ?_; refine X5x ?_; clear hK K; intro w HL; refine X1u ?_; go_upto_region 3 with fail; refine rB (Loc.P HL) [] [5] [0, 1, 2, 3, 4, 6, 5, 7, 8, 9] 0 ?_; refine X3u ?_; intro HL; refine X7i ?_; refine X7j ?_; refine X7g ?_; refine X3e ?_; refine X7k ?_; refine X7l ?_; intro hb8 HX; clear HL; have HL := HX; clear HX; replace hb8 := hb8.drew; go_upto_region 4 with fail; refine X7m ?_; refine X3u ?_; intro HL; refine X7i ?_; refine X7g ?_; refine X38 ?_; refine X7j ?_; refine X7n ?_; refine X3d ?_; refine X7n ?_; refine X5 ?_; refine xac rfl rfl HL (fun W hW => xaf xjc _ rfl _ rfl) ?_; refine Xk ?_; intro K hK; refine xdz sc4 _ _ rfl g8 2 246 _ (.bool false) rfl hb8 rfl rfl (by rw [Plc.len]; decide) ?_; intro w' hb' hf' _
  rw [Plc.s_same] at hb'; replace HL := HL.frame hf' (fun k hk hd => hd.2 (g8, 246, Plc.z.cells) (.head _) hk.symm) (by simp; omega); refine hK _ _ (fun _ => HL) ?_; clear hK K hb8 hf'; have hb8 := hb'; clear hb'; obtain ⟨w, rfl⟩ : ∃ w, w = w' := ⟨_, rfl⟩; refine X5 ?_; refine xac rfl rfl HL (fun W hW => xaf xjd _ rfl _ rfl) ?_; refine Xk ?_; intro K hK; refine xdz sc4 _ _ rfl g8 3 246 _ (.bool false) rfl hb8 rfl rfl (by rw [Plc.len]; decide) ?_; intro w' hb' hf' _; rw [Plc.s_other] at hb'; replace HL := HL.frame hf' (fun k hk hd => hd.2 (g8, 246, Plc.z.cells) (.head _) hk.symm) (by simp; omega); refine hK _ _ (fun _ => HL) ?_; clear hK K hb8 hf'; have hb8 := hb'; clear hb'; obtain ⟨w, rfl⟩ : ∃ w, w = w' := ⟨_, rfl⟩; refine Xd ?_; have hB2 : Below w0.heap.size w0 w := hB1.trans (HL.belowR _ hB1.size hL0)
  have hO2 : w.ownsRow 0 3 1 v.v way.length (iZ way) := xbq HO.out (fun k hk => HL.heap ⟨by obtain ⟨cs, hc⟩ := xcd HO.out hk; exact hc.lt, fun x hx e => by
    simp at hx; have := hv8 k hk; rcases hx with rfl | rfl
    · exact this.2.1 e.symm
    · exact this.2.2 e.symm⟩)
  clear HL; have HL := (Loc.start w).adopt (fun k => k = g8) [(g8, 246, Plc.cells ⟨v, fin, false, false⟩)] (by simp; exact hb8) (by simp); simp only [qn] at HL; obtain ⟨w2, rfl⟩ := eW w; go_upto_region 5 with fail; refine X7o ?_; refine X5 ?_; refine X7p ?_; refine X3j ?_; clear HL; intro w HL; go_wp2_with fail; refine X7q ?_; have hf := HL.frS; refine ⟨v, rfl, xbq hO2 (fun k hk => hf.block k (by obtain ⟨cs, hc⟩ := xcd hO2 hk; exact hc.lt) (hv8 k hk).2.1), fun k hk => (hv8 k hk).1, hB2.trans ⟨hf.os, hf.tape, hf.output, hf.size, fun k hk => hf.block k (by have := hB2.size; omega) (by omega)⟩⟩
theorem xt1 (h : StW D w gs σ) (root : Int) (key : D32) (A : Option Addr) (m c : Nat) (way : List Int) (fin : Int) (hway : Way σ key root way fin) (hl : way.length ≤ 4096)
    (hroot : ∀ u, StW D u gs σ → Calls Tryz.prog 154 #[.pointer (some ⟨gs, 0, none⟩), .int .i64 root] u fun e w' => e = .returned (.int .i64 0) ∧ Below u.heap.size u w')
    (n : Nd) (val : List UInt8) (ok : Bool) (hG : Got σ fin n val ok) (hk : n.kind = 1) (hne : n.key.l ≠ key.l) :
    Calls Tryz.prog 145 #[.pointer (some ⟨gs, 0, none⟩), .int .i64 root, key.a, .slice A m c] w fun e w' => ∃ v : Sv, e = .returned (.agg (Plc.cells ⟨v, fin, false, true⟩).toArray) ∧ w'.ownsRow 0 3 1 v.v way.length (iZ way) ∧ (∀ k, v.v.ownBlock = some k → w.heap.size ≤ k) ∧ Below w.heap.size w w' := by
  have HH := hZ h; have HR := hZ hroot; have HW := hZ hway; have HG := hZ hG; have k1 : ((n.kind : Int) == 1) = true := by rw [hk]; rfl
  have HNE : Hid ((n.key.l == key.l) = false) := hZ (by simpa using hne); clear hne; clear h hroot hway hG hk; have HL := Loc.start w; obtain ⟨w0, rfl⟩ := eW w; go_enter Tryz.func145, Tryz.ntmps145; go_upto_region 0 with fail; refine Xv ?_; refine X76 ?_; clear HL; intro g6 w HL; refine X5 ?_; refine xah zr246 rfl rfl HL ?_; clear HL; intro g8 w HL; refine X22 ?_; refine X77 ?_; intro hg6 hg8; have hg8l : g8 < w.heap.size := (HL.blk (.head _)).lt; refine X78 ?_; intro h68 hg6l; go_upto_region 1 with fail; refine X1b ?_; refine X79 ?_; refine X57 ?_; intro K hK; refine xad cf152 rfl _ rfl ?_; refine X1z ?_; refine X7a ?_; rintro e w ⟨v, rfl, ho, hvb, hb⟩; have hB1 : Below w0.heap.size w0 w := HL.below.trans (hb.mono HL.below.size)
  have hv8 : ∀ k, v.v.ownBlock = some k → w0.heap.size ≤ k ∧ k ≠ g8 ∧ k ≠ g6 := fun k hk => by
    have := hvb k hk; have := HL.below.size; omega
  replace HL := HL.redo (T := fun _ => False) (Fr.of_below hb) (fun _ _ f => f); clear hb hvb; have HO := hZ ho; clear ho; obtain ⟨w1, rfl⟩ := eW w; refine X7b ?_; clear hK K; refine X7c ?_; refine X5 ?_; refine xaw sc71 rfl _ _ rfl HL 0 _ _ _ _ _ _ rfl rfl rfl rfl (by rw [Plc.len]; decide) (Plc.s_above _ _) ?_; refine X3i ?_; clear HL; intro w HL; refine X7d ?_; refine X5 ?_; refine xaw sc3 rfl _ _ rfl HL 0 _ _ _ _ _ _ rfl rfl rfl rfl (by rw [Plc.len]; decide) (Plc.s_fin _ _) ?_; refine X3j ?_; clear HL; intro w HL
  have hL0 : ∀ x ∈ [(g8, 246, Plc.z.cells), (g6, 24, key.c)], w0.heap.size ≤ x.1 := by
    intro x hx; simp at hx; rcases hx with rfl | rfl
    · exact hg8
    · exact hg6
  go_upto_region 2 with fail; refine X14 ?_; refine X7d ?_; refine X5 ?_; refine X7e ?_; refine X57 ?_; intro K hK; refine X6y ?_; refine X7f ?_; refine X5x ?_; clear hK K; intro w HL; refine X1u ?_; go_upto_region 3 with fail; refine rB (Loc.P HL) [] [5] [0, 1, 2, 3, 4, 6, 5, 7, 8, 9] 0 ?_; refine X3u ?_; intro HL; refine X38 ?_; refine xac rfl rfl HL (fun W hW => xaf xm0 _ rfl _ rfl) ?_; refine X5 ?_; refine X7r ?_; refine X5 ?_; refine X61 ?_; refine Xk ?_; intro K hK; refine xad cf148 rfl _ rfl ?_; refine X1z ?_; (with_reducible refine (xqw (HH.out.below (hB1.trans (HL.belowR _ hB1.size hL0))) _ n val ok HG.out).mono ?_); refine X6s ?_; clear hK K; intro w HL; refine xac rfl rfl HL (fun W hW => xcn ab23 _ _ rfl n.key key rfl rfl _ HNE.out) ?_; refine X3f ?_; refine X7k ?_; refine X7l ?_; intro hb8 HX; clear HL; have HL := HX; clear HX
  replace hb8 := hb8.drew; go_upto_region 4 with fail; refine X7m ?_; refine X3u ?_; intro HL; refine X7i ?_; refine X7g ?_; refine X38 ?_; refine X7j ?_; refine X7n ?_; refine X6k ?_; refine X3e ?_; refine X3f ?_; refine X5 ?_; refine xac rfl rfl HL (fun W hW => xaf xjc _ rfl _ rfl) ?_; refine Xk ?_; intro K hK; refine xdz sc4 _ _ rfl g8 2 246 _ (.bool false) rfl hb8 rfl rfl (by rw [Plc.len]; decide) ?_; intro w' hb' hf' _; rw [Plc.s_same] at hb'; replace HL := HL.frame hf' (fun k hk hd => hd.2 (g8, 246, Plc.z.cells) (.head _) hk.symm) (by simp; omega); refine hK _ _ (fun _ => HL) ?_; clear hK K hb8 hf'; have hb8 := hb'; clear hb'; obtain ⟨w, rfl⟩ : ∃ w, w = w' := ⟨_, rfl⟩; refine X5 ?_; refine xac rfl rfl HL (fun W hW => xaf xjd _ rfl _ rfl) ?_; refine Xk ?_; intro K hK
  refine xdz sc4 _ _ rfl g8 3 246 _ (.bool true) rfl hb8 rfl rfl (by rw [Plc.len]; decide) ?_; intro w' hb' hf' _; rw [Plc.s_other] at hb'; replace HL := HL.frame hf' (fun k hk hd => hd.2 (g8, 246, Plc.z.cells) (.head _) hk.symm) (by simp; omega); refine hK _ _ (fun _ => HL) ?_; clear hK K hb8 hf'; have hb8 := hb'; clear hb'; obtain ⟨w, rfl⟩ : ∃ w, w = w' := ⟨_, rfl⟩; refine Xd ?_; have hB2 : Below w0.heap.size w0 w := hB1.trans (HL.belowR _ hB1.size hL0)
  have hO2 : w.ownsRow 0 3 1 v.v way.length (iZ way) := xbq HO.out (fun k hk => HL.heap ⟨by obtain ⟨cs, hc⟩ := xcd HO.out hk; exact hc.lt, fun x hx e => by
    simp at hx; have := hv8 k hk; rcases hx with rfl | rfl
    · exact this.2.1 e.symm
    · exact this.2.2 e.symm⟩)
  clear HL; have HL := (Loc.start w).adopt (fun k => k = g8) [(g8, 246, Plc.cells ⟨v, fin, false, true⟩)] (by simp; exact hb8) (by simp); simp only [qn] at HL; obtain ⟨w2, rfl⟩ := eW w; go_upto_region 5 with fail; refine X7o ?_; refine X5 ?_; refine X7p ?_; refine X3j ?_; clear HL; intro w HL; go_wp2_with fail; refine X7q ?_; have hf := HL.frS; refine ⟨v, rfl, xbq hO2 (fun k hk => hf.block k (by obtain ⟨cs, hc⟩ := xcd hO2 hk; exact hc.lt) (hv8 k hk).2.1), fun k hk => (hv8 k hk).1, hB2.trans ⟨hf.os, hf.tape, hf.output, hf.size, fun k hk => hf.block k (by have := hB2.size; omega) (by omega)⟩⟩
end
section
variable {P : Program} {T : TypeId} {w : World}
theorem xb2 {n : Nat} (B : AT P T n) (cs vs : List Value) (off : Nat) (e : (cs.drop off).take n = vs) : (part T cs.toArray off).run P w = .ok (.agg vs.toArray) w := by
  obtain ⟨d, hd, hr⟩ := B.u; have hs := B.i; subst e
  cases hq : P.info? T with
  | none => simp [hq] at hs
  | some j =>
    have hj : j.size = n := by simpa [hq] using hs
    have ha : (isAgg T).run P w = .ok true w := by
      unfold isAgg; simp only [Sem.run_bind, run_underlying hd, Result.andThen_ok]; cases d <;> simp_all
    have hz : (sizeOf T).run P w = .ok n w := by simp [sizeOf, typeInfo, hq, hj]
    unfold part; simp only [Sem.run_bind, ha, Result.andThen_ok, if_true, hz, Sem.run_pure]; simp [List.extract_eq_take_drop]
theorem xcf (B : W1 P T) (cs : List Value) (v : Value) (off : Nat) (e : cs[off]? = some v) : (part T cs.toArray off).run P w = .ok v w := by
  obtain ⟨d, hd, hr⟩ := B.u
  have ha : (isAgg T).run P w = .ok false w := by
    unfold isAgg; simp only [Sem.run_bind, run_underlying hd, Result.andThen_ok]; cases d <;> first | rfl | simp_all [TypeDesc.isRow]
  unfold part; simp only [Sem.run_bind, ha, Result.andThen_ok, Bool.false_eq_true, if_false, qb, e, Sem.run_pure]
def fkey (f : Field) : String × TypeId × Nat := (f.name, f.type, f.offset)
theorem xbg {fs : List Field} {nm : String} {t off : Nat} {rest : List (String × TypeId × Nat)} (h : fs.map fkey = (nm, t, off) :: rest) (hn : nm ≠ "_") (d : Nat) (xs ys : Array Value) (a b : Value) (r q : Bool)
    (ha : (part t xs off).run P w = .ok a w) (hb : (part t ys off).run P w = .ok b w) (hr : (Op.equalIn d t a b).run P w = .ok r w) (hq : ∀ fs' : List Field, fs'.map fkey = rest → (Op.eqFields d xs ys fs').run P w = .ok q w) :
    (Op.eqFields d xs ys fs).run P w = .ok (r && q) w := by
  cases fs with
  | nil => simp at h
  | cons f fs' =>
    simp only [qk, List.cons.injEq, fkey, Prod.mk.injEq] at h; obtain ⟨⟨h1, h2, h3⟩, h4⟩ := h; subst h1 h2 h3; simp only [Op.eqFields, if_pos hn, Sem.run_bind, ha, hb, hr, Result.andThen_ok]; cases r
    · simp
    · simpa using hq fs' h4
theorem xd9 {fs : List Field} (h : fs.map fkey = []) (d : Nat) (xs ys : Array Value) : (Op.eqFields d xs ys fs).run P w = .ok true w := by
  cases fs with
  | nil => simp [Op.eqFields]
  | cons f fs => simp at h
theorem xf1 {n : Nat} (B : AB P T n) (d : Nat) (x y : D32) (hn : n = 32) : (Op.equalIn (d + 2) T (.agg x.c.toArray) (.agg y.c.toArray)).run P w = .ok (x.l == y.l) w := by
  obtain ⟨e, h1, h2, h3⟩ := B.u
  have hsz : ∀ w, (sizeOf e).run P w = .ok 1 w := by
    intro w; obtain ⟨i, hi, he⟩ := Option.map_eq_some_iff.1 h3; simp [sizeOf, typeInfo, hi, he]
  exact run_equalIn_bytes w d T e n h1 h2 hsz x.l y.l (by rw [hn]; exact x.h) (by rw [hn]; exact y.h)
end
def xer (x y : Nod) : Bool := ((x.kind : Int) == (y.kind : Int)) && ((x.key.l == y.key.l) && ((x.val.l == y.val.l) && ((x.left.l == y.left.l) && ((x.right.l == y.right.l) && true))))
theorem eq_nod (x y : Nod) (w : World) : (Op.equalIn 10000 32 (.agg x.cells.toArray) (.agg y.cells.toArray)).run Tryz.prog w = .ok (xer x y) w := by
  have hF : (Tryz.prog.fieldsOf 32).toList.map fkey = [("Kind", 30, 0), ("Key", 24, 1), ("Value", 23, 33), ("Left", 23, 65), ("Right", 23, 97)] := by kernel_rfl
  rw [run_equalIn_agg w 9999 32 _ _ (by kernel_rfl) (by kernel_rfl)]; generalize (Tryz.prog.fieldsOf 32).toList = fs at hF; refine xbg hF (by decide) 9999 _ _ _ _ _ _ (xcf sc30 _ _ _ (Nod.g_kind x)) (xcf sc30 _ _ _ (Nod.g_kind y)) (run_equalIn_int w 9998 30 .u8 .u8 _ _ (by kernel_rfl)) fun fs1 h1 => ?_
  refine xbg h1 (by decide) 9999 _ _ _ _ _ _ (xb2 ag24 _ _ _ (Nod.g_key x)) (xb2 ag24 _ _ _ (Nod.g_key y)) (xf1 ab23 9997 _ _ rfl) fun fs2 h2 => ?_
  refine xbg h2 (by decide) 9999 _ _ _ _ _ _ (xb2 ag23 _ _ _ (Nod.g_val x)) (xb2 ag23 _ _ _ (Nod.g_val y)) (xf1 ab25 9997 _ _ rfl) fun fs3 h3 => ?_
  refine xbg h3 (by decide) 9999 _ _ _ _ _ _ (xb2 ag23 _ _ _ (Nod.g_left x)) (xb2 ag23 _ _ _ (Nod.g_left y)) (xf1 ab25 9997 _ _ rfl) fun fs4 h4 => ?_
  refine xbg h4 (by decide) 9999 _ _ _ _ _ _ (xb2 ag23 _ _ _ (Nod.g_right x)) (xb2 ag23 _ _ _ (Nod.g_right y)) (xf1 ab25 9997 _ _ rfl) fun fs5 h5 => ?_
  exact xd9 h5 _ _ _
theorem xgw {w : World} {a : Act} {o : Oper} {T' : Nat} (x y : Operand) (ho : o.op = .binOp .neq 32 x y T') (p q : Nod) (ex : a.eval x = .agg p.cells.toArray) (ey : a.eval y = .agg q.cells.toArray) (b : Bool) (h : (!(xer p q)) = b) :
    (execOp a.eval o).run Tryz.prog w = .ok (.value (.bool b)) w := by
  have hg : (eqGuard .neq 32 x y (.agg p.cells.toArray) (.agg q.cells.toArray)).run Tryz.prog w = .ok () w := run_eqGuard_agg w .neq 32 x y _ _ (by kernel_rfl); unfold execOp; simp only [ho, ex, ey, Sem.run_bind, hg, Result.andThen_ok, run_neq_struct, eq_nod, Sem.run_pure, h]
section
variable {w w' : World}
def xdf (x : Nod) : Nod := if x.kind = 1 then ⟨1, x.key, x.val, D32.z, D32.z⟩ else if x.kind = 2 then ⟨2, D32.z, D32.z, x.left, x.right⟩ else Nod.z
def okN (x : Nod) : Bool := xer x (xdf x)
def okE (x : Nod) : Int := if okN x then 0 else 2
theorem xj9 (x : Nod) (h1 : x.kind = 1) (hn : okN x = true) : Calls Tryz.prog 160 #[.agg x.cells.toArray] w fun e w' => e = .returned (.int .i64 (okE x)) ∧ Below w.heap.size w w' := by
  have k0 : ((x.kind : Int) == 0) = false := by rw [h1]; rfl
  have k1 : ((x.kind : Int) == 1) = true := by rw [h1]; rfl
  have eB : xdf x = ⟨1, x.key, x.val, D32.z, D32.z⟩ := by unfold xdf; rw [if_pos h1]
  have HN : Hid ((!(xer x ⟨1, x.key, x.val, D32.z, D32.z⟩)) = false) := hZ (by unfold okN at hn; rw [eB] at hn; rw [hn]; rfl); have e0 : okE x = 0 := by unfold okE; rw [if_pos hn]
  rw [e0]; clear hn e0 eB h1; have HL := Loc.start w; obtain ⟨w0, rfl⟩ := eW w; go_enter Tryz.func160, Tryz.ntmps160; go_upto_region 0 with fail; refine X7t ?_; clear HL; intro g1 w HL; go_upto_region 1 with fail; refine Xv ?_; refine X7u ?_; clear HL; intro g3 w HL; go_upto_region 2 with fail; refine X7w ?_; go_upto_region 3 with fail; refine X6z ?_; go_upto_region 4 with fail; refine X6z ?_; go_upto_region 5 with fail; refine Xv ?_; refine X7x ?_; refine X5 ?_; refine X7y ?_; refine X5 ?_; refine X7z ?_; refine X5 ?_; refine X80 ?_; refine X5 ?_; refine X81 ?_; refine X82 ?_; refine X3j ?_; clear HL; intro w HL; go_upto_region 8 with fail; refine X86 ?_; refine X87 ?_; refine X22 ?_; go_upto_region 10 with fail; refine X1k ?_; go_wp2_with fail; go_ret; exact ⟨rfl, HL.below⟩
theorem xlb (x : Nod) (h1 : x.kind = 1) (hn : okN x = false) : Calls Tryz.prog 160 #[.agg x.cells.toArray] w fun e w' => e = .returned (.int .i64 (okE x)) ∧ Below w.heap.size w w' := by
  have k0 : ((x.kind : Int) == 0) = false := by rw [h1]; rfl
  have k1 : ((x.kind : Int) == 1) = true := by rw [h1]; rfl
  have eB : xdf x = ⟨1, x.key, x.val, D32.z, D32.z⟩ := by unfold xdf; rw [if_pos h1]
  have HN : Hid ((!(xer x ⟨1, x.key, x.val, D32.z, D32.z⟩)) = true) := hZ (by unfold okN at hn; rw [eB] at hn; rw [hn]; rfl); have e0 : okE x = 2 := by unfold okE; rw [hn]; rfl
  rw [e0]; clear hn e0 eB h1; have HL := Loc.start w; obtain ⟨w0, rfl⟩ := eW w; go_enter Tryz.func160, Tryz.ntmps160; go_upto_region 0 with fail; refine X7t ?_; clear HL; intro g1 w HL; go_upto_region 1 with fail; refine Xv ?_; refine X7u ?_; clear HL; intro g3 w HL; go_upto_region 2 with fail; refine X7w ?_; go_upto_region 3 with fail; refine X6z ?_; go_upto_region 4 with fail; refine X6z ?_; go_upto_region 5 with fail; refine Xv ?_; refine X7x ?_; refine X5 ?_; refine X7y ?_; refine X5 ?_; refine X7z ?_; refine X5 ?_; refine X80 ?_; refine X5 ?_; refine X81 ?_; refine X82 ?_; refine X3j ?_; clear HL; intro w HL; go_upto_region 8 with fail; refine X86 ?_; refine X87 ?_; refine X22 ?_; go_upto_region 9 with fail; refine X1k ?_; go_wp2_with fail; go_ret; exact ⟨rfl, HL.below⟩
theorem xi5 (x : Nod) (h1 : x.kind = 2) (hn : okN x = true) : Calls Tryz.prog 160 #[.agg x.cells.toArray] w fun e w' => e = .returned (.int .i64 (okE x)) ∧ Below w.heap.size w w' := by
  have k0 : ((x.kind : Int) == 0) = false := by rw [h1]; rfl
  have k1 : ((x.kind : Int) == 1) = false := by rw [h1]; rfl
  have k2 : ((x.kind : Int) == 2) = true := by rw [h1]; rfl
  have eB : xdf x = ⟨2, D32.z, D32.z, x.left, x.right⟩ := by unfold xdf; rw [if_neg (by omega), if_pos h1]
  have HN : Hid ((!(xer x ⟨2, D32.z, D32.z, x.left, x.right⟩)) = false) := hZ (by unfold okN at hn; rw [eB] at hn; rw [hn]; rfl); have e0 : okE x = 0 := by unfold okE; rw [if_pos hn]
  rw [e0]; clear hn e0 eB h1; have HL := Loc.start w; obtain ⟨w0, rfl⟩ := eW w; go_enter Tryz.func160, Tryz.ntmps160; go_upto_region 0 with fail; refine X7t ?_; clear HL; intro g1 w HL; go_upto_region 1 with fail; refine Xv ?_; refine X7u ?_; clear HL; intro g3 w HL; go_upto_region 2 with fail; refine X7w ?_; go_upto_region 3 with fail; refine X6z ?_; go_upto_region 4 with fail; refine X6z ?_; go_upto_region 6 with fail; refine X6z ?_; go_upto_region 7 with fail; refine Xv ?_; refine X88 ?_; refine X5 ?_; refine X89 ?_; refine X5 ?_; refine X8a ?_; refine X5 ?_; refine X8b ?_; refine X5 ?_; refine xaa rfl _ (xbf bs32 _ rfl _ (by exact xqp _ _)) ?_; refine X82 ?_; refine X3j ?_; clear HL; intro w HL; go_upto_region 8 with fail; refine X86 ?_; refine X8c ?_; refine X22 ?_; go_upto_region 10 with fail; refine X1k ?_; go_wp2_with fail; go_ret; exact ⟨rfl, HL.below⟩
theorem xka (x : Nod) (h1 : x.kind = 2) (hn : okN x = false) : Calls Tryz.prog 160 #[.agg x.cells.toArray] w fun e w' => e = .returned (.int .i64 (okE x)) ∧ Below w.heap.size w w' := by
  have k0 : ((x.kind : Int) == 0) = false := by rw [h1]; rfl
  have k1 : ((x.kind : Int) == 1) = false := by rw [h1]; rfl
  have k2 : ((x.kind : Int) == 2) = true := by rw [h1]; rfl
  have eB : xdf x = ⟨2, D32.z, D32.z, x.left, x.right⟩ := by unfold xdf; rw [if_neg (by omega), if_pos h1]
  have HN : Hid ((!(xer x ⟨2, D32.z, D32.z, x.left, x.right⟩)) = true) := hZ (by unfold okN at hn; rw [eB] at hn; rw [hn]; rfl); have e0 : okE x = 2 := by unfold okE; rw [hn]; rfl
  rw [e0]; clear hn e0 eB h1; have HL := Loc.start w; obtain ⟨w0, rfl⟩ := eW w; go_enter Tryz.func160, Tryz.ntmps160; go_upto_region 0 with fail; refine X7t ?_; clear HL; intro g1 w HL; go_upto_region 1 with fail; refine Xv ?_; refine X7u ?_; clear HL; intro g3 w HL; go_upto_region 2 with fail; refine X7w ?_; go_upto_region 3 with fail; refine X6z ?_; go_upto_region 4 with fail; refine X6z ?_; go_upto_region 6 with fail; refine X6z ?_; go_upto_region 7 with fail; refine Xv ?_; refine X88 ?_; refine X5 ?_; refine X89 ?_; refine X5 ?_; refine X8a ?_; refine X5 ?_; refine X8b ?_; refine X5 ?_; refine xaa rfl _ (xbf bs32 _ rfl _ (by exact xqp _ _)) ?_; refine X82 ?_; refine X3j ?_; clear HL; intro w HL; go_upto_region 8 with fail; refine X86 ?_; refine X8c ?_; refine X22 ?_; go_upto_region 9 with fail; refine X1k ?_; go_wp2_with fail; go_ret; exact ⟨rfl, HL.below⟩
theorem xi6 (x : Nod) (h1 : x.kind = 0) (hn : okN x = true) : Calls Tryz.prog 160 #[.agg x.cells.toArray] w fun e w' => e = .returned (.int .i64 (okE x)) ∧ Below w.heap.size w w' := by
  have k0 : ((x.kind : Int) == 0) = true := by rw [h1]; rfl
  have eB : xdf x = Nod.z := by unfold xdf; rw [if_neg (by omega), if_neg (by omega)]
  have HN : Hid ((!(xer x Nod.z)) = false) := hZ (by unfold okN at hn; rw [eB] at hn; rw [hn]; rfl); have e0 : okE x = 0 := by unfold okE; rw [if_pos hn]
  rw [e0]; clear hn e0 eB h1; have HL := Loc.start w; obtain ⟨w0, rfl⟩ := eW w; go_enter Tryz.func160, Tryz.ntmps160; go_upto_region 0 with fail; refine X7t ?_; clear HL; intro g1 w HL; go_upto_region 1 with fail; refine Xv ?_; refine X7u ?_; clear HL; intro g3 w HL; go_upto_region 2 with fail; refine X7w ?_; go_upto_region 3 with fail; refine X6z ?_; go_upto_region 8 with fail; refine X86 ?_; refine X8d ?_; refine X22 ?_; go_upto_region 10 with fail; refine X1k ?_; go_wp2_with fail; go_ret; exact ⟨rfl, HL.below⟩
theorem xkb (x : Nod) (h1 : x.kind = 0) (hn : okN x = false) : Calls Tryz.prog 160 #[.agg x.cells.toArray] w fun e w' => e = .returned (.int .i64 (okE x)) ∧ Below w.heap.size w w' := by
  have k0 : ((x.kind : Int) == 0) = true := by rw [h1]; rfl
  have eB : xdf x = Nod.z := by unfold xdf; rw [if_neg (by omega), if_neg (by omega)]
  have HN : Hid ((!(xer x Nod.z)) = true) := hZ (by unfold okN at hn; rw [eB] at hn; rw [hn]; rfl); have e0 : okE x = 2 := by unfold okE; rw [hn]; rfl
  rw [e0]; clear hn e0 eB h1; have HL := Loc.start w; obtain ⟨w0, rfl⟩ := eW w; go_enter Tryz.func160, Tryz.ntmps160; go_upto_region 0 with fail; refine X7t ?_; clear HL; intro g1 w HL; go_upto_region 1 with fail; refine Xv ?_; refine X7u ?_; clear HL; intro g3 w HL; go_upto_region 2 with fail; refine X7w ?_; go_upto_region 3 with fail; refine X6z ?_; go_upto_region 8 with fail; refine X86 ?_; refine X8d ?_; refine X22 ?_; go_upto_region 9 with fail; refine X1k ?_; go_wp2_with fail; go_ret; exact ⟨rfl, HL.below⟩
theorem xkc (x : Nod) (h1 : x.kind ≠ 0 ∧ x.kind ≠ 1 ∧ x.kind ≠ 2) (hn : okN x = true) : Calls Tryz.prog 160 #[.agg x.cells.toArray] w fun e w' => e = .returned (.int .i64 (okE x)) ∧ Below w.heap.size w w' := by
  have k0 : ((x.kind : Int) == 0) = false := by simp; omega
  have k1 : ((x.kind : Int) == 1) = false := by simp; omega
  have k2 : ((x.kind : Int) == 2) = false := by simp; omega
  have eB : xdf x = Nod.z := by unfold xdf; rw [if_neg (by omega), if_neg (by omega)]
  have HN : Hid ((!(xer x Nod.z)) = false) := hZ (by unfold okN at hn; rw [eB] at hn; rw [hn]; rfl); have e0 : okE x = 0 := by unfold okE; rw [if_pos hn]
  rw [e0]; clear hn e0 eB h1; have HL := Loc.start w; obtain ⟨w0, rfl⟩ := eW w; go_enter Tryz.func160, Tryz.ntmps160; go_upto_region 0 with fail; refine X7t ?_; clear HL; intro g1 w HL; go_upto_region 1 with fail; refine Xv ?_; refine X7u ?_; clear HL; intro g3 w HL; go_upto_region 2 with fail; refine X7w ?_; go_upto_region 3 with fail; refine X6z ?_; go_upto_region 4 with fail; refine X6z ?_; go_upto_region 6 with fail; refine X6z ?_; go_upto_region 8 with fail; refine X86 ?_; refine X8d ?_; refine X22 ?_; go_upto_region 10 with fail; refine X1k ?_; go_wp2_with fail; go_ret; exact ⟨rfl, HL.below⟩
theorem xlc (x : Nod) (h1 : x.kind ≠ 0 ∧ x.kind ≠ 1 ∧ x.kind ≠ 2) (hn : okN x = false) : Calls Tryz.prog 160 #[.agg x.cells.toArray] w fun e w' => e = .returned (.int .i64 (okE x)) ∧ Below w.heap.size w w' := by
  have k0 : ((x.kind : Int) == 0) = false := by simp; omega
  have k1 : ((x.kind : Int) == 1) = false := by simp; omega
  have k2 : ((x.kind : Int) == 2) = false := by simp; omega
  have eB : xdf x = Nod.z := by unfold xdf; rw [if_neg (by omega), if_neg (by omega)]
  have HN : Hid ((!(xer x Nod.z)) = true) := hZ (by unfold okN at hn; rw [eB] at hn; rw [hn]; rfl); have e0 : okE x = 2 := by unfold okE; rw [hn]; rfl
  rw [e0]; clear hn e0 eB h1; have HL := Loc.start w; obtain ⟨w0, rfl⟩ := eW w; go_enter Tryz.func160, Tryz.ntmps160; go_upto_region 0 with fail; refine X7t ?_; clear HL; intro g1 w HL; go_upto_region 1 with fail; refine Xv ?_; refine X7u ?_; clear HL; intro g3 w HL; go_upto_region 2 with fail; refine X7w ?_; go_upto_region 3 with fail; refine X6z ?_; go_upto_region 4 with fail; refine X6z ?_; go_upto_region 6 with fail; refine X6z ?_; go_upto_region 8 with fail; refine X86 ?_; refine X8d ?_; refine X22 ?_; go_upto_region 9 with fail; refine X1k ?_; go_wp2_with fail; go_ret; exact ⟨rfl, HL.below⟩
theorem xsg (x : Nod) : Calls Tryz.prog 160 #[.agg x.cells.toArray] w fun e w' => e = .returned (.int .i64 (okE x)) ∧ Below w.heap.size w w' := by
  have h := Classical.em (x.kind = 1); cases hn : okN x <;> by_cases h1 : x.kind = 1 <;> by_cases h2 : x.kind = 2 <;> by_cases h0 : x.kind = 0
  all_goals first
    | exact xj9 x h1 hn
    | exact xlb x h1 hn
    | exact xi5 x h2 hn
    | exact xka x h2 hn
    | exact xi6 x h0 hn
    | exact xkb x h0 hn
    | exact xkc x ⟨h0, h1, h2⟩ hn
    | exact xlc x ⟨h0, h1, h2⟩ hn
def txtN (x : Nod) : List UInt8 := if x.kind = 1 then 1 :: (x.key.l ++ x.val.l) else if x.kind = 2 then 2 :: (x.left.l ++ x.right.l) else [0]
end
section
variable {w w' : World}
theorem okE_yes {x : Nod} (h : okN x = true) : okE x = 0 := by unfold okE; rw [if_pos h]
theorem okE_no {x : Nod} (h : okN x = false) : okE x = 2 := by unfold okE; rw [h]; rfl
theorem xkd (x : Nod) (h : okN x = true) (w : World) : Calls Tryz.prog 160 #[.agg x.cells.toArray] w fun e w' => e = .returned (.int .i64 0) ∧ Below w.heap.size w w' := by
  have h2 := xsg (w := w) x; rwa [okE_yes h] at h2
theorem xt2 (x : Nod) (h : okN x = false) (w : World) : Calls Tryz.prog 160 #[.agg x.cells.toArray] w fun e w' => e = .returned (.int .i64 2) ∧ Below w.heap.size w w' := by
  have h2 := xsg (w := w) x; rwa [okE_no h] at h2
theorem xo1 (x : Nod) (hn : okN x = true) (h1 : x.kind = 1) : Calls Tryz.prog 102 #[.agg x.cells.toArray] w fun e w' => ∃ v, e = .returned (.tuple #[v, .int .i64 0]) ∧ OwnB w' w.heap.size 5 v (1 :: (x.key.l ++ x.val.l)) ∧ Below w.heap.size w w' := by
  have k1 : ((x.kind : Int) == 1) = true := by rw [h1]; rfl
  clear h1; have HL := Loc.start w; obtain ⟨w0, rfl⟩ := eW w; go_enter Tryz.func102, Tryz.ntmps102; go_upto_region 0 with fail; refine X7s ?_; clear HL; intro g1 w HL; refine X1j ?_; go_upto_region 1 with fail; refine Xv ?_; refine X84 ?_; refine X57 ?_; intro K hK; refine X8e ?_; refine X8f ?_; refine X6w ?_; clear hK K; intro w HL; go_upto_region 2 with fail; refine X2r ?_; go_upto_region 4 with fail; refine X7v ?_; refine X8g ?_; refine X22 ?_; go_upto_region 5 with fail; refine X6z ?_; go_upto_region 6 with fail; refine Xv ?_; refine X7x ?_; refine X5 ?_; refine xaa rfl _ (xau ag24 HL _ rfl _ _ rfl _ _ _ (.head _) (Nod.g_key _) (D32.cl _)) ?_; refine X5 ?_; refine X7z ?_; refine X5 ?_; refine xaa rfl _ (xau ag23 HL _ rfl _ _ rfl _ _ _ (.head _) (Nod.g_val _) (D32.cl _)) ?_; refine X57 ?_; intro K hK; refine xad cf161 rfl _ rfl ?_; refine X1z ?_
  (with_reducible refine (xqv _ x.key x.val).mono ?_); rintro e w ⟨v, rfl, ho, hb⟩; have ho2 := ho.mono HL.fr.size; replace HL := HL.next hb; clear hb ho; refine X21 ?_; clear hK K; refine X1j ?_; go_wp2_with fail; go_ret2; exact ⟨v, rfl, ho2, HL.below⟩
theorem xnc (x : Nod) (hn : okN x = true) (h1 : x.kind = 2) : Calls Tryz.prog 102 #[.agg x.cells.toArray] w fun e w' => ∃ v, e = .returned (.tuple #[v, .int .i64 0]) ∧ OwnB w' w.heap.size 5 v (2 :: (x.left.l ++ x.right.l)) ∧ Below w.heap.size w w' := by
  have k1 : ((x.kind : Int) == 1) = false := by rw [h1]; rfl
  have k2 : ((x.kind : Int) == 2) = true := by rw [h1]; rfl
  clear h1; have HL := Loc.start w; obtain ⟨w0, rfl⟩ := eW w; go_enter Tryz.func102, Tryz.ntmps102; go_upto_region 0 with fail; refine X7s ?_; clear HL; intro g1 w HL; refine X1j ?_; go_upto_region 1 with fail; refine Xv ?_; refine X84 ?_; refine X57 ?_; intro K hK; refine X8e ?_; refine X8f ?_; refine X6w ?_; clear hK K; intro w HL; go_upto_region 2 with fail; refine X2r ?_; go_upto_region 4 with fail; refine X7v ?_; refine X8g ?_; refine X22 ?_; go_upto_region 5 with fail; refine X6z ?_; go_upto_region 7 with fail; refine X6z ?_; go_upto_region 8 with fail; refine Xv ?_; refine X88 ?_; refine X5 ?_; refine xaa rfl _ (xau ag23 HL _ rfl _ _ rfl _ _ _ (.head _) (Nod.g_left _) (D32.cl _)) ?_; refine X5 ?_; refine X8a ?_; refine X5 ?_; refine xaa rfl _ (xau ag23 HL _ rfl _ _ rfl _ _ _ (.head _) (Nod.g_right _) (D32.cl _)) ?_; refine X57 ?_; intro K hK
  refine xad cf162 rfl _ rfl ?_; refine X1z ?_; (with_reducible refine (xfz _ x.left x.right).mono ?_); rintro e w ⟨v, rfl, ho, hb⟩; have ho2 := ho.mono HL.fr.size; replace HL := HL.next hb; clear hb ho; refine X21 ?_; clear hK K; refine X1j ?_; go_wp2_with fail; go_ret2; exact ⟨v, rfl, ho2, HL.below⟩
theorem xnd (x : Nod) (hn : okN x = true) (h1 : x.kind ≠ 1 ∧ x.kind ≠ 2) : Calls Tryz.prog 102 #[.agg x.cells.toArray] w fun e w' => ∃ v, e = .returned (.tuple #[v, .int .i64 0]) ∧ OwnB w' w.heap.size 5 v ([0]) ∧ Below w.heap.size w w' := by
  have k1 : ((x.kind : Int) == 1) = false := by simp; omega
  have k2 : ((x.kind : Int) == 2) = false := by simp; omega
  clear h1; have HL := Loc.start w; obtain ⟨w0, rfl⟩ := eW w; go_enter Tryz.func102, Tryz.ntmps102; go_upto_region 0 with fail; refine X7s ?_; clear HL; intro g1 w HL; refine X1j ?_; go_upto_region 1 with fail; refine Xv ?_; refine X84 ?_; refine X57 ?_; intro K hK; refine X8e ?_; refine X8f ?_; refine X6w ?_; clear hK K; intro w HL; go_upto_region 2 with fail; refine X2r ?_; go_upto_region 4 with fail; refine X7v ?_; refine X8g ?_; refine X22 ?_; go_upto_region 5 with fail; refine X6z ?_; go_upto_region 7 with fail; refine X6z ?_; go_upto_region 9 with fail; refine X8h ?_; intro K hK; refine xad cf163 rfl _ rfl ?_; refine X1z ?_; (with_reducible refine (xqa _).mono ?_); rintro e w ⟨v, rfl, ho, hb⟩; have ho2 := ho.mono HL.fr.size; replace HL := HL.next hb; clear hb ho; refine X21 ?_; clear hK K; refine X1j ?_; go_wp2_with fail; go_ret2; exact ⟨v, rfl, ho2, HL.below⟩
theorem xid (x : Nod) (hn : okN x = true) : Calls Tryz.prog 102 #[.agg x.cells.toArray] w fun e w' => ∃ v, e = .returned (.tuple #[v, .int .i64 0]) ∧ OwnB w' w.heap.size 5 v (txtN x) ∧ Below w.heap.size w w' := by
  unfold txtN; by_cases h1 : x.kind = 1
  · rw [if_pos h1]; exact xo1 x hn h1
  · by_cases h2 : x.kind = 2
    · rw [if_neg h1, if_pos h2]; exact xnc x hn h2
    · rw [if_neg h1, if_neg h2]; exact xnd x hn ⟨h1, h2⟩
theorem xke (x : Nod) : (txtN x).length ≤ 65 := by
  unfold txtN; have := x.key.h; have := x.val.h; have := x.left.h; have := x.right.h
  split
  · simp; omega
  · split
    · simp; omega
    · simp
theorem xt3 (x : Nod) (hn : okN x = true) : Calls Tryz.prog 218 #[.agg x.cells.toArray] w fun e w' => e = .returned (.tuple #[.agg (shaD (txtN x)).c.toArray, .int .i64 0]) ∧ Below w.heap.size w w' := by
  have HT := hZ (xke x); have HL := Loc.start w; obtain ⟨w0, rfl⟩ := eW w; go_enter Tryz.func218, Tryz.ntmps218; go_upto_region 0 with fail; refine X7s ?_; clear HL; intro g1 w HL; refine X5 ?_; refine xah zr23 rfl rfl HL ?_; clear HL; intro g2 w HL; refine X1c ?_; go_upto_region 1 with fail; refine X83 ?_; refine X57 ?_; intro K hK; refine xad cf102 rfl _ rfl ?_; refine X1z ?_; (with_reducible refine (xid x hn).mono ?_); rintro e w ⟨v, rfl, ho, hb⟩; obtain ⟨vA, vc, rfl, hv1, hv2, hv3⟩ := ho.rd; replace HL := HL.next hb; clear hb ho; refine X6o ?_; clear hK K; have hx : Tx w vA (txtN x).length vc (txtN x) := ⟨rfl, hv1, hv2, hv3, fun _ _ h => h⟩; have HX : Hid (Tx w vA (txtN x).length vc (txtN x)) := hZ hx; clear hx; obtain ⟨w1, rfl⟩ := eW w; clear hv1 hv2 hv3; go_upto_region 2 with fail; refine X2r ?_; go_upto_region 4 with fail; refine X1y ?_; intro K hK; refine X8i ?_
  refine X1z ?_; (with_reducible refine (sum_d _ vA (txtN x).length vc (txtN x) HX.out (by have := HT.out; omega)).mono ?_); refine X5x ?_; clear hK K; intro w HL; refine X5y ?_; refine X4k ?_; clear HL; intro w HL; go_wp2_with fail; refine Xf ?_; refine bodyPost_ret (xak rfl ag23 _ _ g2 23 _ rfl (HL.blk (.head _)) (D32.cl _)) rfl ?_; exact ⟨rfl, HL.below⟩
end
end Go.Proofs.YtkjjdgnkelchfaaGreat
