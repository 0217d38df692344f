import Derived.Test.YtkjjdgnkelchfaaGreatPCU16
set_option linter.unusedSimpArgs false
set_option linter.unusedVariables false
set_option maxRecDepth 100000
set_option maxHeartbeats 16000000
namespace Go.Proofs.YtkjjdgnkelchfaaGreat
open Go Go.RowKit
theorem root_ok {σ : Sb} {root : Int} {t : Tre} {D : Nat → Prop} {gs g : Nat} {vs vf : Sv} {u : World} (hu : StP D u gs g σ vs vf) (ht : IsT σ root 0 t) : Calls Tryz.prog 154 #[.pointer (some ⟨gs, 0, none⟩), .int .i64 root] u fun e w' => e = .returned (.int .i64 0) ∧ Below u.heap.size u w' := by
  by_cases h0 : root = 0
  · subst h0
    exact (xhc hu.sw).mono fun e w' h => ⟨h.1, by rw [← h.2]; exact Below.refl _ _⟩
  · obtain ⟨i, hi, hz, hc, _, _, hk, hd, _⟩ := ht.nz h0
    refine xhd hu.sw root σ.slots[i].nd σ.slots[i].val (.inl ⟨rfl, i, hz, hi, rfl, rfl, hc⟩) ?_
    cases hin : t.isIn with
    | false => rw [hin] at hk; exact .inl hk
    | true => rw [hin] at hk; exact .inr ⟨hk, by simpa using hd hin⟩
theorem stp_or {D D' E : Nat → Prop} {w w' : World} (hs : Stp D w D' w') : Stp (fun k => D k ∨ E k) w (fun k => D' k ∨ E k) w' := by
  refine ⟨?_, ?_, ?_⟩
  · rintro k (hk | hk)
    · rcases hs.new k hk with h1 | h1
      · exact .inl (.inl h1)
      · exact .inr h1
    · exact .inl (.inr hk)
  · rintro k (hk | hk)
    · exact .inl (hs.old k hk)
    · exact .inr hk
  · exact ⟨hs.fr.os, hs.fr.tape, hs.fr.output, hs.fr.size, fun k hk hn => hs.fr.block k hk (fun h => hn (.inl h))⟩
theorem stp_dA {D D' : Nat → Prop} {w w' : World} {gd gv gm : Nat} (hs : Stp (fun k => D k ∨ k = gm) w (fun k => D' k ∨ k = gm) w') : Stp (dA D gd gv gm) w (dA D' gd gv gm) w' := by
  refine ⟨?_, ?_, ?_⟩
  · rintro k (hk | rfl | rfl | rfl)
    · rcases hs.new k (.inl hk) with (h1 | h1) | h1
      · exact .inl (.inl h1)
      · exact .inl (.inr (.inr (.inr h1)))
      · exact .inr h1
    · exact .inl (.inr (.inl rfl))
    · exact .inl (.inr (.inr (.inl rfl)))
    · exact .inl (.inr (.inr (.inr rfl)))
  · rintro k (hk | hk)
    · rcases hs.old k (.inl hk) with h1 | h1
      · exact .inl h1
      · exact .inr (.inr (.inr h1))
    · exact .inr hk
  · refine ⟨hs.fr.os, hs.fr.tape, hs.fr.output, hs.fr.size, fun k hk hn => hs.fr.block k hk ?_⟩
    rintro (h | h)
    · exact hn (.inl h)
    · exact hn (.inr (.inr (.inr h)))
def AddO (D : Nat → Prop) (w : World) (gd gs g gv gm : Nat) (σ : Sb) (vs vf : Sv) (vl : List (List UInt8 × Int)) (root : Int) (R : List Int) (s : List UInt8) (e : Ending) (w' : World) : Prop :=
  ∃ σ', e = .returned (.int .i64 0) ∧ DcV D w' gd gs g gv gm σ' vs vf (vl ++ [(s, root)]) root ∧ Stp (fun k => D k ∨ k = gm) w (fun k => D k ∨ k = gm) w' ∧ σ'.Inv (if root = 0 then R else root :: R) [] ∧ σ.Stays σ' ∧ σ'.room = σ.room ∧ σ'.used = σ.used
section
variable {D : Nat → Prop} {w w' : World} {gd gs g gv gm : Nat} {σ : Sb} {vs vf : Sv} {vl : List (List UInt8 × Int)} {root : Int}
theorem vs_add (h : DcV D w gd gs g gv gm σ vs vf vl root) (R : List Int) (hI : σ.Inv R []) (t : Tre) (ht : IsT σ root 0 t) (hRl : R.length ≤ 536870912) (s : List UInt8) (hs : Low s) (hno : s ∉ vl.map Prod.fst) (h16 : vl.length < 16) :
    Calls Tryz.prog 125 #[.pointer (some ⟨gv, 0, none⟩), .string ⟨s.toArray⟩, .int .i64 root] w (AddO D w gd gs g gv gm σ vs vf vl root R s) := by
  have HH := hZ h; have hgv : Old w gv := h.vb.lt; have hv0 := h.v0; have hv1 := h.v1; have HS := hZ hs; have HT := hZ ht; have HNO := hZ hno
  obtain ⟨kl, hkl⟩ := key9 ⟨s.toArray⟩ (by
    show s.toArray.size ≤ maxLen; have := hs.hi; have e : s.toArray.size = s.length := by simp
    rw [e]; unfold maxLen; omega)
  have HKL := hZ hkl; have HKO := hZ (xp0 h.short)
  have HLK : Hid (((∀ p ∈ vsL vl, p.1 ≠ .string ⟨s.toArray⟩) → Value.int .i64 0 = .int .i64 0 ∧ false = false) ∧ (∀ (j' : Nat) (u : Value), (vsL vl)[j']? = some (.string ⟨s.toArray⟩, u) → Value.int .i64 0 = u ∧ false = true)) := hZ ⟨fun _ => ⟨rfl, rfl⟩, fun j u h => by
    obtain ⟨z, h1, _⟩ := xp1 h
    exact absurd (List.mem_map.2 ⟨_, List.mem_of_getElem? h1, rfl⟩) hno⟩
  have k5 : decide ((vl.length : Int) ≥ 16) = false := by simp; omega
  have HE : Hid ((vsL vl).length = vl.length) := hZ (by simp [vsL]); have CH : ∀ u, Below w.heap.size w u → Hid (Calls Tryz.prog 183 #[.pointer (some ⟨gv, 0, none⟩), .int .i64 root] u (HoldO D u gs g σ vs vf R root)) := fun u hu => hZ (vs_hold (h.below hu) R hI root t ht hRl)
  clear h hI ht hs hno hkl; have HL := Loc.start w; obtain ⟨w0, rfl⟩ := eW w; go_enter Tryz.func125, Tryz.ntmps125; go_upto_region 0 with fail; refine X1j ?_; go_upto_region 1 with fail; refine X1x ?_; intro K hK; refine xac cf182 rfl _ rfl ?_; refine X1y ?_; refine Xdc ?_; rintro e w ⟨rfl, rfl⟩; refine X22 ?_; clear hK K; go_upto_region 3 with fail; refine Xdd ?_; refine X5 ?_; refine Xde ?_; refine X14 ?_; refine xaa rfl _ (xf7 (HH.out.mp.below HL.below) law9 Tryz.underlying257 (zero3 _) HKO.out HKL.out (.tmp 17) (.tmp 18) rfl rfl rfl (.int .i64 0) false HLK.out) ?_; refine X7c ?_; go_upto_region 4 with fail; refine X13 ?_; refine Xdf ?_; refine X5 ?_; refine Xdg ?_; refine X42 ?_; intro K hK; refine X7h ?_; refine X1y ?_; (with_reducible refine (root_ok (HH.out.st.below HL.below) HT.out).mono ?_); refine X7i ?_; clear hK K; intro w HL; go_upto_region 5 with fail
  refine X1x ?_; intro K hK; refine xac cf121 rfl _ rfl ?_; refine X1y ?_; (with_reducible refine (xok s HS.out _).mono ?_); rintro e w ⟨rfl, rfl⟩; refine X5i ?_; clear hK K; refine X1t ?_; go_upto_region 7 with fail; refine X11 ?_; refine Xcj ?_; refine X19 ?_; go_upto_region 9 with fail; refine X7j ?_; go_upto_region 11 with fail; refine Xdd ?_; refine X5 ?_; refine Xde ?_; refine X5 ?_; refine xaa rfl _ (xip (HH.out.mp.below HL.below) Tryz.underlying257 _ rfl rfl) ?_; refine X5 ?_; refine xaa rfl _ (xfr (b := false) _ _ rfl _ _ rfl rfl (by rw [HE.out]; exact k5)) ?_; refine X19 ?_; go_upto_region 13 with fail; refine X2k ?_; intro K hK; refine xac cf183 rfl _ rfl ?_; refine X1y ?_; (with_reducible refine ((CH _ HL.below).out).mono ?_); rintro e w ⟨σ2, rfl, hP2, hS2, hI2, hY2, hr2, hu2⟩; have HD2 := hZ ((HH.out.below HL.below).turned hS2 hP2)
  have HS2 : Hid (Stp (fun k => D k ∨ k = gm) w0 (fun k => D k ∨ k = gm) w) := hZ ((Stp.of_below HL.below).trans (stp_or hS2)); have HI2 := hZ hI2; have HY2 := hZ hY2; have HU2 := hZ (And.intro hr2 hu2); clear hP2 hS2 hI2 hY2 hr2 hu2; refine X2n ?_; clear hK K; go_upto_region 14 with fail; refine Xcn ?_; clear HL CH; have HL := Loc.start w; obtain ⟨w2, rfl⟩ := eW w; have hgv2 : Old w2 gv := HD2.out.vb.lt; have hv12 := HD2.out.v1; go_upto_region 16 with fail; refine Xdd ?_; refine X5 ?_; refine xaa rfl _ (xax sc257 HL _ rfl _ rfl _ hgv2 hv12) ?_; refine X14 ?_; refine X8b ?_; intro K hK; refine xk5 (key := .string ⟨s.toArray⟩) (val := .int .i64 root) HD2.out.mp law9 Tryz.underlying257 HKO.out HKL.out (.tmp 54) (.tmp 55) (.tmp 56) rfl rfl rfl rfl (vsL_no HNO.out) ?_; intro w3 hM3 hg3; refine hK _ _ ?_; clear hK K; have HM3 := hZ hM3; have HG3 := hZ hg3; clear hM3 hg3 HL
  have HL := Loc.start w3; obtain ⟨w, rfl⟩ : ∃ w, w = w3 := ⟨_, rfl⟩; refine X16 ?_; go_upto_region 17 with fail; refine X1j ?_; go_wp2_with fail; go_ret; have hf : Fr (· = gm) w2 w := (Fr.refl _ _).grown HG3.out (fun k hk => .inl (by cases hk; rfl)); have hd := HD2.out
  refine ⟨σ2, rfl, ⟨hd.blk.fr hf (fun e => hd.mp.ne_blk hd.blk e.symm), hd.st.fr hf (fun k hk e => hd.fm (by rw [← e]; exact hk)), hd.vb.fr hf (fun e => hd.mp.ne_blk hd.vb e.symm), by
    have := HM3.out; rw [show vsL (vl ++ [(s, root)]) = vsL vl ++ [(.string ⟨s.toArray⟩, .int .i64 root)] by simp [vsL]]
    exact this, hd.fd, hd.fv, hd.fm, fun x hx => ?_⟩, HS2.out.trans (Stp.of_fr hf (fun k hk => .inr hk)), HI2.out, HY2.out, HU2.out.1, HU2.out.2⟩
  rcases List.mem_append.1 hx with hx | hx
  · exact hd.short x hx
  · rw [List.mem_singleton.1 hx]; exact HS.out.hi
theorem xp2 (gd gq g9 : Nat) (hd : ∀ u, Below w.heap.size w u → Calls Tryz.prog 123 #[.pointer (some ⟨gd, 0, none⟩)] u fun e w' => e = .returned (.int .i64 0) ∧ u = w') (hr : ∀ u, Below w.heap.size w u → Calls Tryz.prog 124 #[.pointer (some ⟨gd, 0, none⟩)] u fun e w' => e = .returned (.int .i64 0) ∧ u = w')
    (hf : ∀ u, Below w.heap.size w u → Calls Tryz.prog 120 #[.pointer (some ⟨g9, 0, none⟩)] u fun e w' => e = .returned (.int .i64 0) ∧ u = w')
    (hb : Blk w gq 76 [.func (.func 123) #[.pointer (some ⟨gd, 0, none⟩)] #[], .func (.func 120) #[] #[.pointer (some ⟨g9, 0, none⟩)], .func (.func 124) #[.pointer (some ⟨gd, 0, none⟩)] #[]]) :
    Calls Tryz.prog 122 #[.slice (some ⟨gq, 0, none⟩) 3 3] w fun e w' => e = .returned (.int .i64 0) ∧ w = w' := by
  have hgq : Old w gq := hb.lt; have HC : Hid (w.cell? ⟨gq, 0 * 1, none⟩ = some (.func (.func 123) #[.pointer (some ⟨gd, 0, none⟩)] #[]) ∧ w.cell? ⟨gq, 1 * 1, none⟩ = some (.func (.func 120) #[] #[.pointer (some ⟨g9, 0, none⟩)]) ∧ w.cell? ⟨gq, 2 * 1, none⟩ = some (.func (.func 124) #[.pointer (some ⟨gd, 0, none⟩)] #[])) := hZ ⟨by rw [hb.cell]; rfl, by rw [hb.cell]; rfl, by rw [hb.cell]; rfl⟩; have HCD := hZ hd; have HCR := hZ hr; have HCF := hZ hf; clear hb hd hr hf; have HL := Loc.start w; obtain ⟨w0, rfl⟩ := eW w; go_enter Tryz.func122, Tryz.ntmps122; go_upto_region 0 with fail; refine X1j ?_; go_upto_region 1 with fail; refine X11 ?_; refine xaa rfl _ (xav Tryz.underlying286 _ rfl ⟨some ⟨gq, 0, none⟩, 3, 3⟩ 3 rfl rfl) ?_; refine X1e ?_; go_wp2_with fail; refine wp_loop_rounds 4 ?_; rw [rounds_succ]; go_upto_region 2 with fail; refine Xc9 ?_; go_upto_region 3 with fail
  refine Xs ?_; refine xaa rfl _ (xbc sl286 _ _ rfl gq 3 3 0 .i64 rfl rfl (by decide)) ?_; refine X5 ?_; refine xaa rfl _ (xax sc76 HL _ rfl _ rfl _ hgq HC.out.1) ?_; refine X19 ?_; go_upto_region 4 with fail; refine X1x ?_; intro K hK; refine xic cf123 rfl [.pointer (some ⟨gd, 0, none⟩)] [] rfl _ rfl ?_; simp only [qk, ql, qu, qn]; (with_reducible refine (HCD.out _ HL.below).mono ?_); rintro e w ⟨rfl, rfl⟩; refine X20 ?_; clear hK K; refine Xz ?_; go_upto_region 5 with fail; refine Xcn ?_; go_upto_region 7 with fail; refine X6j ?_; go_wp2_with fail; rw [rounds_succ]; go_upto_region 2 with fail; refine Xc9 ?_; go_upto_region 3 with fail; refine Xs ?_; refine xaa rfl _ (xbc sl286 _ _ rfl gq 3 3 1 .i64 rfl rfl (by decide)) ?_; refine X5 ?_; refine xaa rfl _ (xax sc76 HL _ rfl _ rfl _ hgq HC.out.2.1) ?_; refine X19 ?_
  go_upto_region 4 with fail; refine X1x ?_; intro K hK; refine xic cf120 rfl [] [.pointer (some ⟨g9, 0, none⟩)] rfl _ rfl ?_; simp only [qk, ql, qu, qn]; (with_reducible refine (HCF.out _ HL.below).mono ?_); rintro e w ⟨rfl, rfl⟩; refine X20 ?_; clear hK K; refine Xz ?_; go_upto_region 5 with fail; refine Xcn ?_; go_upto_region 7 with fail; refine X6j ?_; go_wp2_with fail; rw [rounds_succ]; go_upto_region 2 with fail; refine Xc9 ?_; go_upto_region 3 with fail; refine Xs ?_; refine xaa rfl _ (xbc sl286 _ _ rfl gq 3 3 2 .i64 rfl rfl (by decide)) ?_; refine X5 ?_; refine xaa rfl _ (xax sc76 HL _ rfl _ rfl _ hgq HC.out.2.2) ?_; refine X19 ?_; go_upto_region 4 with fail; refine X1x ?_; intro K hK; refine xic cf124 rfl [.pointer (some ⟨gd, 0, none⟩)] [] rfl _ rfl ?_; simp only [qk, ql, qu, qn]; (with_reducible refine (HCR.out _ HL.below).mono ?_)
  rintro e w ⟨rfl, rfl⟩; refine X20 ?_; clear hK K; refine Xz ?_; go_upto_region 5 with fail; refine Xcn ?_; go_upto_region 7 with fail; refine X6j ?_; go_wp2_with fail; rw [rounds_succ]; go_upto_region 2 with fail; refine Xs ?_; refine Xcg ?_; refine X21 ?_; go_upto_region 8 with fail; refine X1j ?_; go_wp2_with fail; go_ret; exact ⟨rfl, rfl⟩
theorem xol (h : DcV D w gd gs g gv gm σ vs vf vl root) (R : List Int) (hI : σ.Inv R []) (t : Tre) (ht : IsT σ root 0 t) (hRl : R.length ≤ 536870912) (s : List UInt8) (hs : Low s) (hno : s ∉ vl.map Prod.fst) (h16 : vl.length < 16) :
    Calls Tryz.prog 72 #[.pointer (some ⟨gd, 0, none⟩), .string ⟨s.toArray⟩] w (AddO D w gd gs g gv gm σ vs vf vl root R s) := by
  have HH := hZ h; have hgd : Old w gd := h.blk.lt; have hc0 := h.c0; have hc2 := h.c2; have HS := hZ hs; have CAd : ∀ u, Below w.heap.size w u → Hid (Calls Tryz.prog 125 #[.pointer (some ⟨gv, 0, none⟩), .string ⟨s.toArray⟩, .int .i64 root] u (AddO D u gd gs g gv gm σ vs vf vl root R s)) := fun u hu => hZ (vs_add (h.below hu) R hI t ht hRl s hs hno h16)
  clear h hI ht hs hno; have HL := Loc.start w; obtain ⟨w0, rfl⟩ := eW w; go_enter Tryz.func72, Tryz.ntmps72; go_upto_region 0 with fail; refine Xs ?_; refine lo_box1 rfl _ rfl HL (.string ⟨s.toArray⟩) rfl rfl ?_; clear HL; intro g3 w HL; refine Xz ?_; go_upto_region 1 with fail; refine Xs ?_; refine xaa rfl _ (xgd (.func 120) [] [.tmp 3] rfl [] [.pointer (some ⟨g3, 0, none⟩)] rfl rfl) ?_; refine X19 ?_; go_upto_region 2 with fail; refine X11 ?_; refine xaa rfl _ (xgd (.func 123) [.tmp 8] [] rfl [.pointer (some ⟨gd, 0, none⟩)] [] rfl rfl) ?_; refine X14 ?_; refine X10 ?_; refine xaa rfl _ (xgd (.func 124) [.tmp 11] [] rfl [.pointer (some ⟨gd, 0, none⟩)] [] rfl rfl) ?_; refine X4z ?_; intro K hK
  refine xcx sl286 el76 3 _ rfl HL [.func (.func 123) #[.pointer (some ⟨gd, 0, none⟩)] #[], .func (.func 120) #[] #[.pointer (some ⟨g3, 0, none⟩)], .func (.func 124) #[.pointer (some ⟨gd, 0, none⟩)] #[]] (fun u hu => by
    simp only [List.mem_cons, List.not_mem_nil, or_false] at hu
    rcases hu with rfl | rfl | rfl <;> rfl) rfl (by decide) (by decide) (by simp [Act.eval]) ?_
  clear HL; intro gq w HL; refine hK _ _ ?_; clear hK K; have CC := hZ (xp2 gd gq g3 (fun u hu => xq6 ((HH.out.below HL.below).below hu).dc) (fun u hu => dc_room ((HH.out.below HL.below).below hu) h16) (fun u hu => snap_fit s HS.out g3 ((HL.blk (.tail _ (.head _))).below hu (HL.blk (.tail _ (.head _))).lt)) (HL.blk (.head _))); refine Xaw ?_; intro K hK; refine xac cf122 rfl _ rfl ?_; refine X1y ?_; (with_reducible refine (CC.out).mono ?_); rintro e w ⟨rfl, rfl⟩; refine X2n ?_; clear hK K; go_upto_region 3 with fail; refine Xcn ?_; clear CC; have HB := hZ HL.drew.below; have hgd3 : Old w0 gd ∧ ¬ (D gd ∨ gd = gm) := ⟨hgd, fun h => h.elim HH.out.fd (fun e => HH.out.mp.ne_blk HH.out.blk e.symm)⟩; have HLT := HH.out.lt; have HX := HL.less (D' := fun k => Old w0 k ∧ ¬ (D k ∨ k = gm)) (fun k hk => hk.1)
  have HA : Hid (∀ x ∈ [(gq, 76, [Value.func (.func 123) #[.pointer (some ⟨gd, 0, none⟩)] #[], .func (.func 120) #[] #[.pointer (some ⟨g3, 0, none⟩)], .func (.func 124) #[.pointer (some ⟨gd, 0, none⟩)] #[]]), (g3, 9, [Value.string ⟨s.toArray⟩])], ¬ (D x.1 ∨ x.1 = gm)) := hZ (fun x hx hk => (HL.own x hx).1 (hk.elim (fun h => HLT _ (.inl h)) (fun e => HLT _ (.inr (.inr (.inr e)))))); clear HL HLT; have HL := HX; clear HX; go_upto_region 5 with fail; refine rB (Loc.P HL) [] [10] [0, 1, 2, 3, 4, 5, 6, 7, 8, 9, 10, 11] 0 ?_; refine X3e ?_; intro HL; refine xab rfl rfl HL (fun W hW => xaf xl3 _ rfl _ rfl) ?_; refine X5 ?_; refine xab rfl rfl HL (fun W hW => xaf xl2 _ rfl _ rfl) ?_; refine X5 ?_; refine xab rfl rfl HL (fun W hW => xax sc161 hW _ rfl _ rfl _ hgd3 hc0) ?_; refine X5 ?_
  refine xab rfl rfl HL (fun W hW => xah sc9 hW _ rfl _ _ rfl _ _ (.string ⟨s.toArray⟩) (.tail _ (.head _)) rfl) ?_; refine X3h ?_; refine Xd1 ?_; refine X5 ?_; refine xab rfl rfl HL (fun W hW => xax sc3 hW _ rfl _ rfl _ hgd3 hc2) ?_; refine Xf ?_; intro K hK; refine xac cf125 rfl _ rfl ?_; refine X1y ?_; (with_reducible refine ((CAd _ HB.out).out).mono ?_); rintro e w ⟨σ2, rfl, hD2, hS2, hI2, hY2, hr2, hu2⟩; have HD2 := hZ hD2; have HS2 := hZ ((Stp.of_below HB.out).trans hS2); replace HL := HL.frame hS2.fr (fun k hk hd => hd.2 hk) HA.out; clear hD2 hS2; refine X58 ?_; clear hK K; refine X4p ?_; go_wp2_with fail; go_ret; exact ⟨σ2, rfl, HD2.out, HS2.out, hI2, hY2, hr2, hu2⟩
end
def Less1 (R R' : List Int) (z : Int) : Prop := (z = 0 ∧ R = R') ∨ (z ≠ 0 ∧ ∀ y, R.count y = R'.count y + if y = z then 1 else 0)
def GoneO (D : Nat → Prop) (w : World) (gs g : Nat) (σ : Sb) (R : List Int) (e : Ending) (w' : World) : Prop :=
  ∃ (m : Int) (D' : Nat → Prop) (vs' vf' : Sv) (σ' : Sb), e = .returned (.int .i64 m) ∧ StP D' w' gs g σ' vs' vf' ∧ Stp D w D' w' ∧ σ'.Inv R [] ∧ σ.Keeps R σ' ∧ σ'.used ≤ σ.used ∧ σ'.room = σ.room
def PruO (D : Nat → Prop) (w : World) (gd gs g gv gm : Nat) (σ : Sb) (vl : List (List UInt8 × Int)) (root : Int) (R : List Int) (mk : Int → Value) (e : Ending) (w' : World) : Prop :=
  ∃ (m : Int) (D' : Nat → Prop) (vs' vf' : Sv) (σ' : Sb), e = .returned (mk m) ∧ DcV D' w' gd gs g gv gm σ' vs' vf' vl root ∧ Stp (dA D gd gv gm) w (dA D' gd gv gm) w' ∧ σ'.Inv R [] ∧ σ.Keeps R σ' ∧ σ'.used ≤ σ.used ∧ σ'.room = σ.room
def mkA (m : Int) : Value := .tuple #[.int .i64 m, .int .i64 0]
def mkB (_ : Int) : Value := .int .i64 0
section
variable {D : Nat → Prop} {w w' : World} {gd gs g gv gm : Nat} {σ : Sb} {vs vf : Sv} {vl : List (List UInt8 × Int)} {root : Int}
theorem vs_root (h : DcV D w gd gs g gv gm σ vs vf vl root) (hnd : (vl.map Prod.fst).Nodup) (s : List UInt8) (hs : s.length ≤ 20) (z : Int) (j : Nat) (hj : vl[j]? = some (s, z)) :
    Calls Tryz.prog 128 #[.pointer (some ⟨gv, 0, none⟩), .string ⟨s.toArray⟩] w fun e w' => e = .returned (.tuple #[.int .i64 z, .int .i64 0]) ∧ w = w' := by
  have HH := hZ h; have hgv : Old w gv := h.vb.lt; have hv1 := h.v1
  obtain ⟨kl, hkl⟩ := key9 ⟨s.toArray⟩ (by
    show s.toArray.size ≤ maxLen; have e : s.toArray.size = s.length := by simp
    rw [e]; unfold maxLen; omega)
  have HKL := hZ hkl; have HKO := hZ (xp0 h.short)
  have HLK : Hid (((∀ p ∈ vsL vl, p.1 ≠ .string ⟨s.toArray⟩) → Value.int .i64 z = .int .i64 0 ∧ true = false) ∧ (∀ (j' : Nat) (u : Value), (vsL vl)[j']? = some (.string ⟨s.toArray⟩, u) → Value.int .i64 z = u ∧ true = true)) := hZ ⟨fun hn => by
    have hm : ((s, z) : List UInt8 × Int) ∈ vl := List.mem_of_getElem? hj
    exact absurd rfl (hn _ (List.mem_map.2 ⟨_, hm, rfl⟩)), fun j' u h2 => by
    obtain ⟨z', h3, h4⟩ := xp1 h2; have e1 : (vl.map Prod.fst)[j]? = some s := by rw [List.getElem?_map, hj]; rfl
    have e2 : (vl.map Prod.fst)[j']? = some s := by rw [List.getElem?_map, h3]; rfl
    obtain rfl := xfv hnd e1 e2; rw [hj] at h3; injection h3 with h3; injection h3 with _ h3
    exact ⟨by rw [h4, h3], rfl⟩⟩
  clear h hnd hj hkl; have HL := Loc.start w; obtain ⟨w0, rfl⟩ := eW w; go_enter Tryz.func128, Tryz.ntmps128; go_upto_region 0 with fail; refine X2z ?_; go_upto_region 1 with fail; refine X1x ?_; intro K hK; refine xac cf182 rfl _ rfl ?_; refine X1y ?_; refine Xdc ?_; rintro e w ⟨rfl, rfl⟩; refine X22 ?_; clear hK K; go_upto_region 3 with fail; refine Xdd ?_; refine X5 ?_; refine Xde ?_; refine X14 ?_; refine xaa rfl _ (xf7 (HH.out.mp.below HL.below) law9 Tryz.underlying257 (zero3 _) HKO.out HKL.out (.tmp 14) (.tmp 15) rfl rfl rfl (.int .i64 z) true HLK.out) ?_; refine X7c ?_; go_upto_region 4 with fail; refine X2o ?_; go_upto_region 6 with fail; refine X3r ?_; go_wp2_with fail; go_ret2; exact ⟨rfl, rfl⟩
theorem vs_drop (h : DcV D w gd gs g gv gm σ vs vf vl root) (R R' : List Int) (hI : σ.Inv R []) (z : Int) (t : Tre) (ht : IsT σ z 0 t) (hR : Less1 R R' z) (h1 : R.length ≤ 1073741824) (h2 : R'.length ≤ 1073741824) :
    Calls Tryz.prog 184 #[.pointer (some ⟨gv, 0, none⟩), .int .i64 z] w (GoneO D w gs g σ R') := by
  have hgv : Old w gv := h.vb.lt; have hv0 := h.v0; have HL := Loc.start w; obtain ⟨w0, rfl⟩ := eW w; by_cases hz : z = 0
  · subst hz
    obtain rfl : R = R' := hR.elim (fun x => x.2) (fun x => absurd rfl x.1); go_enter Tryz.func184, Tryz.ntmps184; go_upto_region 0 with fail; refine X1j ?_; go_upto_region 1 with fail; refine X1j ?_; go_upto_region 2 with fail; refine Xcn ?_; go_upto_region 4 with fail; refine X7j ?_; go_wp2_with fail; go_ret; exact ⟨0, D, vs, vf, σ, rfl, h.st, Stp.refl _ _, hI, Sb.Keeps.refl _ _, Nat.le_refl _, rfl⟩
  · obtain ⟨i, hi, hzi, hc, _⟩ := ht.nz hz
    have hR' : ∀ y, R.count y = R'.count y + if y = (i : Int) + 1 then 1 else 0 := by
      rw [← hzi]; exact hR.elim (fun x => absurd x.1 hz) (fun x => x.2)
    have HD := hZ (xf8 h.st R R' hI z i hzi hi hR' h1 h2); have k1 : (z == 0) = !true := by simpa using hz
    clear h hI ht hR hR' hzi; go_enter Tryz.func184, Tryz.ntmps184; go_upto_region 0 with fail; refine X1j ?_; go_upto_region 1 with fail; refine X1j ?_; go_upto_region 2 with fail; refine X11 ?_; refine X7o ?_; refine X21 ?_; go_upto_region 3 with fail; refine X13 ?_; refine Xdf ?_; refine X5 ?_; refine Xdg ?_; refine X42 ?_; intro K hK; refine X8m ?_; (with_reducible refine (HD.out).mono ?_); rintro e w ⟨m, D', vs', vf', σ', rfl, hP, hS, hI, hY, hu, hr, _⟩; have HO := hZ (And.intro hP (And.intro hS (And.intro hI (And.intro hY (And.intro hu hr))))); clear hP hS hI hY hu hr; refine X20 ?_; clear hK K; refine X14 ?_; refine X47 ?_; refine X46 ?_; refine X19 ?_; clear HL; go_upto_region 4 with fail; refine X7j ?_; go_wp2_with fail; go_ret; exact ⟨m, D', vs', vf', σ', rfl, HO.out.1, HO.out.2.1, HO.out.2.2.1, HO.out.2.2.2.1, HO.out.2.2.2.2.1, HO.out.2.2.2.2.2⟩
theorem nodup_of (vl : List (List UInt8 × Int)) (h : (vl.map Prod.fst).Nodup) {s : List UInt8} {z : Int} {j : Nat} (hj : vl[j]? = some (s, z)) : ∀ es' : List (Value × Value),
    ( ((∀ p ∈ vsL vl, p.1 ≠ .string ⟨s.toArray⟩) ∧ es' = vsL vl) ∨ ∃ (j' : Nat) (u : Value), (vsL vl)[j']? = some (.string ⟨s.toArray⟩, u) ∧ es' = (vsL vl).eraseIdx j') → es' = vsL (vl.eraseIdx j) := by
  intro es' h2; rcases h2 with ⟨h2, _⟩ | ⟨j', u, h2, rfl⟩
  · exact absurd rfl (h2 _ (List.mem_map.2 ⟨_, List.mem_of_getElem? hj, rfl⟩))
  · obtain ⟨z', h3, _⟩ := xp1 h2
    have e1 : (vl.map Prod.fst)[j]? = some s := by rw [List.getElem?_map, hj]; rfl
    have e2 : (vl.map Prod.fst)[j']? = some s := by rw [List.getElem?_map, h3]; rfl
    obtain rfl := xfv h e1 e2; unfold vsL; rw [xhf]
theorem vs_pru (h : DcV D w gd gs g gv gm σ vs vf vl root) (R R' : List Int) (hI : σ.Inv R []) (hnd : (vl.map Prod.fst).Nodup) (s : List UInt8) (hs : s.length ≤ 20) (z : Int) (t : Tre) (ht : IsT σ z 0 t) (j : Nat) (hj : vl[j]? = some (s, z)) (hR : Less1 R R' z) (h1 : R.length ≤ 1073741824) (h2 : R'.length ≤ 1073741824) :
    Calls Tryz.prog 126 #[.pointer (some ⟨gv, 0, none⟩), .string ⟨s.toArray⟩] w (PruO D w gd gs g gv gm σ (vl.eraseIdx j) root R' mkA) := by
  have HH := hZ h; have hgv : Old w gv := h.vb.lt; have hv1 := h.v1
  obtain ⟨kl, hkl⟩ := key9 ⟨s.toArray⟩ (by
    show s.toArray.size ≤ maxLen; have e : s.toArray.size = s.length := by simp
    rw [e]; unfold maxLen; omega)
  have HKL := hZ hkl; have HKO := hZ (xp0 h.short); have HNO := hZ (nodup_of vl hnd hj); have CR : ∀ u, Below w.heap.size w u → Hid (Calls Tryz.prog 128 #[.pointer (some ⟨gv, 0, none⟩), .string ⟨s.toArray⟩] u fun e w' => e = .returned (.tuple #[.int .i64 z, .int .i64 0]) ∧ u = w') := fun u hu => hZ (vs_root (h.below hu) hnd s hs z j hj)
  have CD : ∀ u gd vl, DcV D u gd gs g gv gm σ vs vf vl root → Hid (Calls Tryz.prog 184 #[.pointer (some ⟨gv, 0, none⟩), .int .i64 z] u (GoneO D u gs g σ R')) := fun u gd vl hu => hZ (vs_drop hu R R' hI z t ht hR h1 h2)
  clear h hI ht hnd hj hR hkl; have HL := Loc.start w; obtain ⟨w0, rfl⟩ := eW w; go_enter Tryz.func126, Tryz.ntmps126; go_upto_region 0 with fail; refine X2z ?_; go_upto_region 1 with fail; refine X2k ?_; intro K hK; refine xac cf128 rfl _ rfl ?_; refine Xdh ?_; rintro e w ⟨rfl, rfl⟩; refine X7d ?_; clear hK K; go_upto_region 2 with fail; refine Xcn ?_; clear HL; have HL := Loc.start w0; go_upto_region 4 with fail; refine Xdd ?_; refine X5 ?_; refine Xde ?_; refine X42 ?_; intro K hK; refine xso (key := .string ⟨s.toArray⟩) HH.out.mp law9 Tryz.underlying257 HKO.out HKL.out (.tmp 20) (.tmp 21) rfl rfl rfl ?_; intro w es' hM hG hE; obtain rfl := HNO.out _ hE; refine hK _ _ ?_; clear hK K hE; have HM := hZ hM; have HG := hZ hG; clear hM hG HL; refine X16 ?_; have HF : Hid (Fr (· = gm) w0 w) := hZ ((Fr.refl _ _).grown HG.out (fun k hk => .inl (by cases hk; rfl)))
  have HD : Hid (DcV D w gd gs g gv gm σ vs vf (vl.eraseIdx j) root) := hZ (by
    have hd := HH.out; have hf := HF.out
    exact ⟨hd.blk.fr hf (fun e => hd.mp.ne_blk hd.blk e.symm), hd.st.fr hf (fun k hk e => hd.fm (by rw [← e]; exact hk)), hd.vb.fr hf (fun e => hd.mp.ne_blk hd.vb e.symm), HM.out, hd.fd, hd.fv, hd.fm, fun x hx => hd.short x ((List.eraseIdx_sublist _ _).subset hx)⟩)
  have HL := Loc.start w; go_upto_region 5 with fail; refine X2k ?_; intro K hK; refine xac cf184 rfl _ rfl ?_; refine X1y ?_; (with_reducible refine ((CD _ _ _ (HD.out.below HL.below)).out).mono ?_); rintro e w ⟨m, D', vs', vf', σ', rfl, hP, hS, hI, hY, hu, hr⟩; have HO := hZ (And.intro ((HD.out.below HL.below).turned hS hP) (And.intro ((Stp.of_below HL.below).trans hS) (And.intro hI (And.intro hY (And.intro hu hr))))); clear hP hS hI hY hu hr; refine X5i ?_; clear hK K; refine X1f ?_; clear HL; go_wp2_with fail; go_ret2; exact ⟨m, D', vs', vf', σ', rfl, HO.out.1, stp_dA ((Stp.of_fr HF.out (fun k hk => .inr hk)).trans (stp_or HO.out.2.1)), HO.out.2.2.1, HO.out.2.2.2.1, HO.out.2.2.2.2.1, HO.out.2.2.2.2.2⟩
theorem dc_prune (h : DcV D w gd gs g gv gm σ vs vf vl root) (R R' : List Int) (hI : σ.Inv R []) (hnd : (vl.map Prod.fst).Nodup) (s : List UInt8) (hs : s.length ≤ 20) (z : Int) (t : Tre) (ht : IsT σ z 0 t) (j : Nat) (hj : vl[j]? = some (s, z)) (hR : Less1 R R' z) (h1 : R.length ≤ 1073741824) (h2 : R'.length ≤ 1073741824) (u : FrameMode) :
    CallsD Tryz.prog 73 #[.pointer (some ⟨gd, 0, none⟩), .string ⟨s.toArray⟩] u w fun e u' w' => u' = u ∧ PruO D w gd gs g gv gm σ (vl.eraseIdx j) root R' mkB e w' := by
  have HH := hZ h; have hgd : Old w gd := h.blk.lt; have hc0 := h.c0; have CR : ∀ u, Below w.heap.size w u → Hid (Calls Tryz.prog 126 #[.pointer (some ⟨gv, 0, none⟩), .string ⟨s.toArray⟩] u (PruO D u gd gs g gv gm σ (vl.eraseIdx j) root R' mkA)) := fun u hu => hZ (vs_pru (h.below hu) R R' hI hnd s hs z t ht j hj hR h1 h2)
  clear h hI ht hnd hj hR; have HL := Loc.start w; obtain ⟨w0, rfl⟩ := eW w
  go_enter_d Tryz.func73, Tryz.ntmps73
  go_upto_region 0 with fail; refine X1j ?_; go_upto_region 1 with fail; refine X1x ?_; intro K hK; refine xac cf123 rfl _ rfl ?_; refine X1y ?_; (with_reducible refine (xq6 (HH.out.below HL.below).dc).mono ?_); rintro e w ⟨rfl, rfl⟩; refine X2n ?_; clear hK K; go_upto_region 2 with fail; refine Xcn ?_; go_upto_region 4 with fail; refine X13 ?_; refine xaa rfl _ (xaf xl3 _ rfl _ rfl) ?_; refine X5 ?_; refine xaa rfl _ (xaf xl2 _ rfl _ rfl) ?_; refine X5 ?_; refine xaa rfl _ (xax sc161 HL _ rfl _ rfl _ hgd hc0) ?_; refine X42 ?_; intro K hK; refine xac cf126 rfl _ rfl ?_; refine Xdh ?_; rintro e w ⟨m, D', vs', vf', σ', rfl, hO⟩; have HO := hZ hO; have HB := hZ HL.below; clear hO; refine X7d ?_; clear hK K; clear HL; go_upto_region 5 with fail; refine X7j ?_; go_wp2_with fail; go_ret
  exact ⟨m, D', vs', vf', σ', rfl, HO.out.1, (Stp.of_below HB.out).trans HO.out.2.1, HO.out.2.2⟩
end
section
variable {D : Nat → Prop} {w w' : World} {gd gs g gv gm : Nat} {σ : Sb} {vs vf : Sv} {vl : List (List UInt8 × Int)} {root : Int}
theorem xkr (h : StW D w gs σ) (hr : 1 ≤ σ.room) : Calls Tryz.prog 92 #[.pointer (some ⟨gs, 0, none⟩)] w fun e w' => ∃ gv gm, e = .returned (.tuple #[.pointer (some ⟨gv, 0, none⟩), .int .i64 0]) ∧ Blk w' gv 259 [.pointer (some ⟨gs, 0, none⟩), .map (some gm)] ∧ MapP w' gm [] ∧ w.heap.size ≤ gv ∧ w.heap.size ≤ gm ∧ Below w.heap.size w w' := by
  have HH := hZ h; have k1 : ((σ.room : Int) == 0) = false := by simp; omega
  clear h; have HL := Loc.start w; obtain ⟨w0, rfl⟩ := eW w; go_enter Tryz.func92, Tryz.ntmps92; go_upto_region 0 with fail; refine X2z ?_; go_upto_region 1 with fail; refine X1x ?_; intro K hK; refine X7n ?_; refine X1y ?_; (with_reducible refine (xf5 (HH.out.below HL.below)).mono ?_); rintro e w ⟨rfl, rfl⟩; refine X5i ?_; clear hK K; refine X8n ?_; refine X21 ?_; go_upto_region 3 with fail; refine X11 ?_; refine xq0 rfl rfl HL ?_; intro g8 w1 HL1 hM hge hne; have HG : Hid (w0.heap.size ≤ g8) := hZ (Nat.le_trans HL.below.size hge); have HM : ∀ (L : List (Nat × Nat × List Value)) u, Loc w1 (Old w1) L u → Hid (MapP u g8 []) := fun L u hu => hZ (hM.below hu.below)
  have HB1 := hZ HL1.below; clear HL hM hge hne HL1; have HL := Loc.start w1; obtain ⟨w, rfl⟩ : ∃ w, w = w1 := ⟨_, rfl⟩; obtain ⟨w1, rfl⟩ := eW w; refine X8o ?_; refine X5 ?_; refine xcb rfl _ rfl HL _ rfl ?_; clear HL; intro g10 w HL; refine X1g ?_; go_wp2_with fail; go_ret2; have ho := (HL.own _ (.head _)); have hs1 := HB1.out.size; refine ⟨g10, g8, rfl, HL.blk (.head _), (HM _ _ HL).out, ?_, HG.out, HB1.out.trans (HL.below.mono hs1)⟩; have := ho.1; unfold Old at this; omega
theorem xsz (r : Nat) (h1 : 1 ≤ r) (h2 : r ≤ 65536) : Calls Tryz.prog 36 #[.int .i64 (r : Int)] w fun e w' => ∃ gd gs g gv gm D, e = .returned (.tuple #[.pointer (some ⟨gd, 0, none⟩), .int .i64 0]) ∧ DcV D w' gd gs g gv gm ⟨[], [], r, 0⟩ Sv.nil Sv.nil [] 0 ∧ (∀ k, dA D gd gv gm k → w.heap.size ≤ k) ∧ Below w.heap.size w w' := by
  have HL := Loc.start w; obtain ⟨w0, rfl⟩ := eW w; go_enter Tryz.func36, Tryz.ntmps36; go_upto_region 0 with fail; refine X2z ?_; go_upto_region 1 with fail; refine X1x ?_; intro K hK; refine xac cf91 rfl _ rfl ?_; refine X1y ?_; (with_reducible refine (xk4 r h1 h2).mono ?_); rintro e w ⟨gs, g, D, rfl, hst, hnew, hb⟩; refine X8p ?_; intro hB1 hnew2; clear HL hb hnew; have HL := Loc.start w; obtain ⟨w1, rfl⟩ := eW w; refine X7d ?_; clear hK K; go_upto_region 2 with fail; refine X2o ?_; have HB1 := hZ hB1; clear hB1; go_upto_region 4 with fail; refine X1x ?_; intro K hK; refine xac cf92 rfl _ rfl ?_; refine X1y ?_; (with_reducible refine (xkr (hst.below HL.below).sw h1).mono ?_); rintro e w ⟨gv, gm, rfl, hvb, hmp, hgv, hgm, hb⟩; have HS : Hid (w1.heap.size ≤ gv ∧ w1.heap.size ≤ gm) := hZ ⟨Nat.le_trans HL.below.size hgv, Nat.le_trans HL.below.size hgm⟩
  have HST : ∀ (L : List (Nat × Nat × List Value)) u, Loc w (Old w) L u → Hid (StP D u gs g ⟨[], [], r, 0⟩ Sv.nil Sv.nil ∧ Blk u gv 259 [.pointer (some ⟨gs, 0, none⟩), .map (some gm)] ∧ MapP u gm []) := fun L u hu => hZ ⟨((hst.below HL.below).below hb).below hu.below, hvb.below hu.below hvb.lt, hmp.below hu.below⟩
  have HB2 : Hid (Below w1.heap.size w1 w) := hZ (HL.below.trans (hb.mono HL.below.size)); have HLT : Hid (∀ k, D k → k < w1.heap.size) := hZ (fun k hk => hst.sb.lt k hk); clear HL hb hvb hmp hgv hgm; have HL := Loc.start w; obtain ⟨w2, rfl⟩ := eW w; refine X7d ?_; clear hK K; go_upto_region 5 with fail; refine X2o ?_; go_upto_region 7 with fail; refine X8q ?_; refine X8r ?_; refine X5 ?_; refine xcb rfl _ rfl HL _ rfl ?_; clear HL; intro g27 w HL; refine X1g ?_; go_wp2_with fail; go_ret2; have hgd := HL.own _ (.head _)
  have hgd1 : w2.heap.size ≤ g27 := by
    have := hgd.1; unfold Old at this; omega
  have hs1 := HB1.out.size; have hs2 := HB2.out.size; have hs3 := HL.below.size; obtain ⟨q1, q2, q3⟩ := (HST _ _ HL).out; refine ⟨g27, gs, g, gv, gm, D, rfl, ⟨hgd.2, q1, q2, q3, fun hk => ?_, fun hk => ?_, fun hk => ?_, fun x hx => by cases hx⟩, ?_, HB1.out.trans ((HB2.out.trans (HL.below.mono hs2)).mono hs1)⟩
  · have := HLT.out _ hk; omega
  · have := HLT.out _ hk; have := HS.out.1; omega
  · have := HLT.out _ hk; have := HS.out.2; omega
  · rintro k (hk | rfl | rfl | rfl)
    · exact hnew2 k hk
    · omega
    · have := HS.out.1; omega
    · have := HS.out.2; omega
theorem xom {nm : Value} (h : DcP D w gd gs g σ vs vf nm root) (x : D32) (hX : ∀ u, StW D u gs σ → Calls Tryz.prog 83 #[.pointer (some ⟨gs, 0, none⟩), .int .i64 root] u fun e w' => e = .returned x.a ∧ Below u.heap.size u w') : Calls Tryz.prog 29 #[.pointer (some ⟨gd, 0, none⟩), .string ⟨#[]⟩] w fun e w' => e = .returned (.tuple #[x.a, .int .i64 0]) ∧ Below w.heap.size w w' := by
  have HH := hZ h; have hc1 := h.c1; have HX := hZ hX; clear h hX; have hgd : Old w gd := HH.out.blk.lt; have HL := Loc.start w; obtain ⟨w0, rfl⟩ := eW w; go_enter Tryz.func29, Tryz.ntmps29; go_upto_region 0 with fail; refine Xs ?_; refine xai zr23 rfl rfl HL ?_; clear HL; intro g4 w HL; refine X19 ?_; go_upto_region 1 with fail; refine X2k ?_; intro K hK; refine Xcv ?_; refine Xcw ?_; rintro e w ⟨rfl, rfl⟩; refine X7d ?_; clear hK K; go_upto_region 2 with fail; refine X2o ?_; go_upto_region 4 with fail; refine X13 ?_; refine Xct ?_; refine X5 ?_; refine xaa rfl _ (xax xns HL _ rfl _ rfl _ hgd hc1) ?_; refine X42 ?_; intro K hK; refine X6y ?_; (with_reducible refine (HX.out _ (HH.out.st.sw.below HL.below)).mono ?_); refine X4x ?_; clear hK K; intro w HL; refine X4y ?_; refine X4c ?_; clear HL; intro w HL; go_wp2_with fail; refine Xcx ?_; exact ⟨rfl, HL.below⟩
theorem dig_ok {t : Tre} {u : World} (hu : StW D u gs σ) (ht : IsT σ root 0 t) : Calls Tryz.prog 83 #[.pointer (some ⟨gs, 0, none⟩), .int .i64 root] u fun e w' => e = .returned t.dg.a ∧ Below u.heap.size u w' := by
  by_cases hz : root = 0
  · subst hz
    rw [ht.zero]; exact xgs hu
  · obtain ⟨i, hi, hzi, hc, hd, _⟩ := ht.nz hz
    rw [← hd]; exact xf4 hu root σ.slots[i].nd σ.slots[i].val (.inl ⟨rfl, i, hzi, hi, rfl, rfl, hc⟩)
theorem xp3 (key : D32) : ∀ (t : Tre) (z : Int) (d : Nat), IsT σ z d t → t.Ok d → ∃ (way : List Int) (fin : Int) (n : Nd) (val : List UInt8) (ok : Bool), Way σ key z way fin ∧ way.length + d ≤ 256 + d ∧ (d ≤ 256 → way.length + d ≤ 256) ∧ Got σ fin n val ok ∧ (n.kind = 1 ∧ (n.key, val) ∈ t.ents ∨ n.kind = 0) ∧ (∀ v, (key, v) ∈ t.ents → n.kind = 1 ∧ n.key = key ∧ val = v)
  | .nil, z, d, h, _ => by
    have h : z = 0 := h; subst h; have hg : Got σ 0 Nd.z [] false := .inr ⟨rfl, by omega, rfl, rfl⟩; exact ⟨[], 0, Nd.z, [], false, .stop _ _ _ _ hg (by decide), by simp, by simp, hg, .inr rfl, fun v hv => by cases hv⟩
  | .leaf k v, z, d, h, _ => by
    obtain ⟨i, hi, e, h1, h2, h3, h4, h5, h6, h7, h8, h9⟩ := h; have hg : Got σ z σ.slots[i].nd σ.slots[i].val true := .inl ⟨rfl, i, e, hi, rfl, rfl, h1⟩; refine ⟨[], z, _, _, true, .stop _ _ _ _ hg (by rw [h3]; decide), by simp, by simp, hg, .inl ⟨h3, by rw [h4, h2]; simp [Tre.ents]⟩, fun v' hv => ?_⟩; simp only [Tre.ents, List.mem_singleton, Prod.mk.injEq] at hv; exact ⟨h3, by rw [h4, hv.1], by rw [h2, hv.2]⟩
  | .inner l r, z, d, h, ok => by
    obtain ⟨hd, o1, o2, hl, hr, _⟩ := ok; obtain ⟨i, hi, e, h1, h2, h3, h4, h5, h6, h7, h8⟩ := h; have hg : Got σ z σ.slots[i].nd σ.slots[i].val true := .inl ⟨rfl, i, e, hi, rfl, rfl, h1⟩
    cases hb : tb key.l d with
    | true =>
      obtain ⟨way, fin, n, val, ok, p1, p2, p3, p4, p5, p6⟩ := xp3 key r _ _ h8 o2; refine ⟨z :: way, fin, n, val, ok, .step z _ _ d way fin hg h2 hd h3 (by unfold sdO; rw [hb]; exact p1), ?_, fun _ => ?_, p4, ?_, fun v hv => ?_⟩
      · have := p3 (by omega); simp only [qr]; omega
      · have := p3 (by omega); simp only [qr]; omega
      · exact p5.imp (fun x => ⟨x.1, List.mem_append.2 (.inr x.2)⟩) id
      · rcases List.mem_append.1 hv with hv | hv
        · have := hl _ (xc3 hv)
          rw [hb] at this; cases this
        · exact p6 v hv
    | false =>
      obtain ⟨way, fin, n, val, ok, p1, p2, p3, p4, p5, p6⟩ := xp3 key l _ _ h7 o1; refine ⟨z :: way, fin, n, val, ok, .step z _ _ d way fin hg h2 hd h3 (by unfold sdO; rw [hb]; exact p1), ?_, fun _ => ?_, p4, ?_, fun v hv => ?_⟩
      · have := p3 (by omega); simp only [qr]; omega
      · have := p3 (by omega); simp only [qr]; omega
      · exact p5.imp (fun x => ⟨x.1, List.mem_append.2 (.inl x.2)⟩) id
      · rcases List.mem_append.1 hv with hv | hv
        · exact p6 v hv
        · have := hr _ (xc3 hv)
          rw [hb] at this; cases this
end
theorem inv_new (r : Nat) (h1 : 1 ≤ r) (h2 : r ≤ 65536) : (⟨[], [], r, 0⟩ : Sb).Inv [] [] where
  ok := ⟨h1, h2, rfl, Nat.zero_le _, fun n hn => by cases hn⟩
  nice := ⟨List.nodup_nil, fun n hn => by cases hn⟩
  count := fun i h => absurd h (Nat.not_lt_zero _)
  held := fun i h => absurd h (Nat.not_lt_zero _)
  free := fun i h => absurd h (Nat.not_lt_zero _)
  used := rfl
  root := fun z hz => by cases hz
  todo := fun z hz => by cases hz
  left := fun i h => absurd h (Nat.not_lt_zero _)
  right := fun i h => absurd h (Nat.not_lt_zero _)
def rt1 (z : Int) (R : List Int) : List Int := if z = 0 then R else z :: R
def befS : List UInt8 := [98, 101, 102, 111, 114, 101]
structure DkS (S : Nat → Prop) (w : World) (gd : Nat) (vl : List (List UInt8 × Int)) (R0 : List Int) (told t : Tre) (u : Nat) (D : Nat → Prop) (gs g gv gm : Nat) (σ : Sb) (vs vf : Sv) (root z0 : Int) : Prop where
  dc : DcV D w gd gs g gv gm σ vs vf vl root
  inv : σ.Inv (rt1 root R0) []
  it : IsT σ root 0 t
  i0 : IsT σ z0 0 told
  ok : t.Ok 0
  room : σ.room = 60000
  used : σ.used ≤ u
  eS : S = dA D gd gv gm
def DkW (S : Nat → Prop) (w : World) (gd : Nat) (t : Tre) (u : Nat) : Prop :=
  ∃ D gs g gv gm σ vs vf root, DkS S w gd [] [] .nil t u D gs g gv gm σ vs vf root 0
def DkH (S : Nat → Prop) (w : World) (gd : Nat) (told t : Tre) (u : Nat) : Prop :=
  ∃ D gs g gv gm σ vs vf root z0, DkS S w gd [(befS, z0)] (rt1 z0 []) told t u D gs g gv gm σ vs vf root z0
theorem DkS.below {S : Nat → Prop} {w w' : World} {gd : Nat} {vl : List (List UInt8 × Int)} {R0 : List Int} {told t : Tre} {u : Nat} {D : Nat → Prop} {gs g gv gm : Nat} {σ : Sb} {vs vf : Sv} {root z0 : Int}
    (h : DkS S w gd vl R0 told t u D gs g gv gm σ vs vf root z0) (hb : Below w.heap.size w w') : DkS S w' gd vl R0 told t u D gs g gv gm σ vs vf root z0 := ⟨h.dc.below hb, h.inv, h.it, h.i0, h.ok, h.room, h.used, h.eS⟩
theorem DkS.fr {S : Nat → Prop} {w w' : World} {gd : Nat} {vl : List (List UInt8 × Int)} {R0 : List Int} {told t : Tre} {u : Nat} {D : Nat → Prop} {gs g gv gm : Nat} {σ : Sb} {vs vf : Sv} {root z0 : Int}
    (h : DkS S w gd vl R0 told t u D gs g gv gm σ vs vf root z0) {T : Nat → Prop} (hf : Fr T w w') (hT : ∀ k, S k → ¬ T k) : DkS S w' gd vl R0 told t u D gs g gv gm σ vs vf root z0 := ⟨h.dc.fr hf (by rw [← h.eS]; exact hT), h.inv, h.it, h.i0, h.ok, h.room, h.used, h.eS⟩
section
variable {S : Nat → Prop} {w w' : World} {gd u : Nat} {told t : Tre}
theorem DkW.below (h : DkW S w gd t u) (hb : Below w.heap.size w w') : DkW S w' gd t u := by
  obtain ⟨D, gs, g, gv, gm, σ, vs, vf, root, h⟩ := h; exact ⟨D, gs, g, gv, gm, σ, vs, vf, root, h.below hb⟩
theorem DkW.fr (h : DkW S w gd t u) {T : Nat → Prop} (hf : Fr T w w') (hT : ∀ k, S k → ¬ T k) : DkW S w' gd t u := by
  obtain ⟨D, gs, g, gv, gm, σ, vs, vf, root, h⟩ := h; exact ⟨D, gs, g, gv, gm, σ, vs, vf, root, h.fr hf hT⟩
theorem DkW.lt (h : DkW S w gd t u) : ∀ k, S k → k < w.heap.size := by
  obtain ⟨D, gs, g, gv, gm, σ, vs, vf, root, h⟩ := h; rw [h.eS]; exact h.dc.lt
theorem DkW.more (h : DkW S w gd t u) {u' : Nat} (hu : u ≤ u') : DkW S w gd t u' := by
  obtain ⟨D, gs, g, gv, gm, σ, vs, vf, root, h⟩ := h; exact ⟨D, gs, g, gv, gm, σ, vs, vf, root, ⟨h.dc, h.inv, h.it, h.i0, h.ok, h.room, Nat.le_trans h.used hu, h.eS⟩⟩
theorem DkH.below (h : DkH S w gd told t u) (hb : Below w.heap.size w w') : DkH S w' gd told t u := by
  obtain ⟨D, gs, g, gv, gm, σ, vs, vf, root, z0, h⟩ := h; exact ⟨D, gs, g, gv, gm, σ, vs, vf, root, z0, h.below hb⟩
theorem DkH.fr (h : DkH S w gd told t u) {T : Nat → Prop} (hf : Fr T w w') (hT : ∀ k, S k → ¬ T k) : DkH S w' gd told t u := by
  obtain ⟨D, gs, g, gv, gm, σ, vs, vf, root, z0, h⟩ := h; exact ⟨D, gs, g, gv, gm, σ, vs, vf, root, z0, h.fr hf hT⟩
theorem DkH.lt (h : DkH S w gd told t u) : ∀ k, S k → k < w.heap.size := by
  obtain ⟨D, gs, g, gv, gm, σ, vs, vf, root, z0, h⟩ := h; rw [h.eS]; exact h.dc.lt
theorem dk_new (w : World) : Calls Tryz.prog 36 #[.int .i64 60000] w fun e w' => ∃ gd S, e = .returned (.tuple #[.pointer (some ⟨gd, 0, none⟩), .int .i64 0]) ∧ DkW S w' gd .nil 0 ∧ (∀ k, S k → w.heap.size ≤ k) ∧ Below w.heap.size w w' := by
  refine (xsz (w := w) 60000 (by decide) (by decide)).mono ?_; rintro e w' ⟨gd, gs, g, gv, gm, D, he, hd, hS, hb⟩; exact ⟨gd, dA D gd gv gm, he, ⟨D, gs, g, gv, gm, ⟨[], [], 60000, 0⟩, Sv.nil, Sv.nil, 0, ⟨hd, inv_new 60000 (by decide) (by decide), rfl, rfl, trivial, rfl, Nat.le_refl _, rfl⟩⟩, hS, hb⟩
theorem xq8 (h : DkW S w gd t u) : Calls Tryz.prog 29 #[.pointer (some ⟨gd, 0, none⟩), .string ⟨#[]⟩] w fun e w' => e = .returned (.tuple #[t.dg.a, .int .i64 0]) ∧ Below w.heap.size w w' := by
  obtain ⟨D, gs, g, gv, gm, σ, vs, vf, root, h⟩ := h; exact xom h.dc.dc t.dg fun u hu => dig_ok hu h.it
theorem dk_rootH (h : DkH S w gd told t u) : Calls Tryz.prog 29 #[.pointer (some ⟨gd, 0, none⟩), .string ⟨#[]⟩] w fun e w' => e = .returned (.tuple #[t.dg.a, .int .i64 0]) ∧ Below w.heap.size w w' := by
  obtain ⟨D, gs, g, gv, gm, σ, vs, vf, root, z0, h⟩ := h; exact xom h.dc.dc t.dg fun u hu => dig_ok hu h.it
theorem dk_get (h : DkW S w gd t u) (A : Option Addr) (c : Nat) (key : D32) (hr : Rd w A (bvs key.l)) (hc : 32 ≤ c) (val : List UInt8) (hm : (key, val) ∈ t.ents) :
    Calls Tryz.prog 37 #[.pointer (some ⟨gd, 0, none⟩), .string ⟨#[]⟩, .slice A 32 c] w fun e w' => ∃ v, e = .returned (.tuple #[v, .bool true, .int .i64 0]) ∧ OwnB w' w.heap.size 5 v val ∧ Below w.heap.size w w' := by
  obtain ⟨D, gs, g, gv, gm, σ, vs, vf, root, h⟩ := h; obtain ⟨way, fin, n, v, ok, p1, _, p3, p4, _, p6⟩ := xp3 key t root 0 h.it h.ok; obtain ⟨q1, q2, rfl⟩ := p6 _ hm; refine dc_get h.dc.dc A c key hr hc v fun u hu => xnz hu root key way fin p1 (by have := p3 (by omega); omega) (fun u2 hu2 => ?_) n v ok p4 q1 (by rw [q2]) (xfu h.ok _ hm)
  by_cases hz : root = 0
  · have e0 := h.it
    rw [hz] at e0; rw [e0.zero] at hm; cases hm
  · obtain ⟨i, hi, hzi, hc2, _, _, hk, hd, _⟩ := h.it.nz hz
    refine xhd hu2 root σ.slots[i].nd σ.slots[i].val (.inl ⟨rfl, i, hzi, hi, rfl, rfl, hc2⟩) ?_
    cases hin : t.isIn with
    | false => rw [hin] at hk; exact .inl hk
    | true => rw [hin] at hk; exact .inr ⟨hk, by simpa using hd hin⟩
theorem RawT.weak {D S : Nat → Prop} {A : Option Addr} {n c : Nat} {rs : List RE} (h : RawT S w A n c rs) (hs : ∀ k, D k → S k) : RawT D w A n c rs :=
  ⟨h.rd, h.len, h.cap, h.kt, h.vt, fun e he hne ad ha hk => h.dv e he hne ad ha (hs _ hk)⟩
def BatK (S : Nat → Prop) (w : World) (told : Tre) (rs : List RE) (X : (Nat → Prop) → World → Tre → Prop) (e : Ending) (w' : World) : Prop :=
  (xcj rs ≠ 0 ∧ e = .returned (.int .i64 (xcj rs)) ∧ Below w.heap.size w w') ∨
  (xcj rs = 0 ∧ ∃ (t' : Tre) (S' : Nat → Prop), e = .returned (.int .i64 0) ∧ X S' w' t' ∧ Stp S w S' w' ∧ SpA told (rs.map toE) t')
theorem xhj (z : Int) (R : List Int) : (rt1 z R).length ≤ R.length + 1 := by unfold rt1; split <;> simp
theorem dk_batch (h : DkW S w gd t u) (A : Option Addr) (n c : Nat) (rs : List RE) (hW : RawT S w A n c rs) (hn : n ≤ 11) (hbig : ∀ e ∈ rs, e.k.length ≤ 140737488351232) (hts : t.size ≤ 400000) (hfit : u + 258 * n ≤ 60000) :
    Calls Tryz.prog 74 #[.pointer (some ⟨gd, 0, none⟩), .slice A n c] w (BatK S w t rs fun S' w' t' => DkW S' w' gd t' (u + 257 * n)) := by
  obtain ⟨D, gs, g, gv, gm, σ, vs, vf, root, h⟩ := h; have hS : S = dA D gd gv gm := h.eS; subst hS; refine (xoi h.dc [] t h.inv h.it h.ok A n c rs (hW.weak fun k hk => .inl hk) hn hbig (by simp) hts (by rw [h.room]; omega) (by have := h.used; rw [h.room]; omega)).mono ?_; rintro e w' (⟨h1, h2, h3⟩ | ⟨h1, t', z, D', vs', vf', σ', h2, h3, h4, h5, h6, h7, h8, h9, h10⟩)
  · exact .inl ⟨h1, h2, h3⟩
  · refine .inr ⟨h1, t', dA D' gd gv gm, h2, ⟨D', gs, g, gv, gm, σ', vs', vf', z, ⟨h3, h5, h7, rfl, h10.ok, by rw [h8, h.room], ?_, rfl⟩⟩, h4, h10⟩
    have := h.used; rw [hW.len] at h9; omega
theorem befS_low : Low befS := ⟨by decide, by decide, by decide⟩
theorem dk_snap (h : DkW S w gd t u) : Calls Tryz.prog 72 #[.pointer (some ⟨gd, 0, none⟩), .string ⟨befS.toArray⟩] w fun e w' => ∃ S', e = .returned (.int .i64 0) ∧ DkH S' w' gd t t u ∧ Stp S w S' w' := by
  obtain ⟨D, gs, g, gv, gm, σ, vs, vf, root, h⟩ := h; have hS : S = dA D gd gv gm := h.eS; subst hS; refine (xol h.dc (rt1 root []) h.inv t h.it (by have := xhj root []; simp only [qs] at this; omega) befS befS_low (by simp) (by simp)).mono ?_; rintro e w' ⟨σ', h1, h2, h3, h4, h5, h6, h7⟩
  have hk : IsT σ' root 0 t := h.it.keep (h5.keeps h.inv) h4 (R := rt1 root []) (fun z hz => by split <;> simp [hz]) (by
    by_cases hz : root = 0
    · exact .inl hz
    · exact .inr (.root _ (by unfold rt1; rw [if_neg hz]; simp)))
  exact ⟨dA D gd gv gm, h1, ⟨D, gs, g, gv, gm, σ', vs, vf, root, root, ⟨h2, h4, hk, hk, h.ok, by rw [h6, h.room], by rw [h7]; exact h.used, rfl⟩⟩, stp_dA h3⟩
theorem xlg (h : DkH S w gd told t u) (A : Option Addr) (n c : Nat) (rs : List RE) (hW : RawT S w A n c rs) (hn : n ≤ 11) (hbig : ∀ e ∈ rs, e.k.length ≤ 140737488351232) (hts : t.size ≤ 400000) (hfit : u + 258 * n ≤ 60000) :
    Calls Tryz.prog 74 #[.pointer (some ⟨gd, 0, none⟩), .slice A n c] w (BatK S w t rs fun S' w' t' => DkH S' w' gd told t' (u + 257 * n)) := by
  obtain ⟨D, gs, g, gv, gm, σ, vs, vf, root, z0, h⟩ := h; have hS : S = dA D gd gv gm := h.eS; subst hS; refine (xoi h.dc (rt1 z0 []) t h.inv h.it h.ok A n c rs (hW.weak fun k hk => .inl hk) hn hbig (by have := xhj z0 []; simp only [qs] at this; omega) hts (by rw [h.room]; omega) (by have := h.used; rw [h.room]; omega)).mono ?_; rintro e w' (⟨h1, h2, h3⟩ | ⟨h1, t', z, D', vs', vf', σ', h2, h3, h4, h5, h6, h7, h8, h9, h10⟩)
  · exact .inl ⟨h1, h2, h3⟩
  · have hk : IsT σ' z0 0 told := h.i0.keep h6 h5 (fun y hy => by split <;> simp [hy]) (by
      by_cases hz : z0 = 0
      · exact .inl hz
      · exact .inr (.root _ (by unfold rt1; rw [if_neg hz]; simp)))
    refine .inr ⟨h1, t', dA D' gd gv gm, h2, ⟨D', gs, g, gv, gm, σ', vs', vf', z, z0, ⟨h3, h5, h7, hk, h10.ok, by rw [h8, h.room], ?_, rfl⟩⟩, h4, h10⟩; have := h.used; rw [hW.len] at h9; omega
theorem rt1_less (z z0 : Int) : Less1 (rt1 z (rt1 z0 [])) (rt1 z []) z0 := by
  unfold rt1; by_cases h0 : z0 = 0
  · exact .inl ⟨h0, by rw [if_pos h0]⟩
  · refine .inr ⟨h0, fun y => ?_⟩
    rw [if_neg h0]; by_cases hz : z = 0
    · rw [if_pos hz, if_pos hz]
      by_cases hy : y = z0
      · subst hy; simp
      · rw [if_neg hy, List.count_eq_zero.2 (by simpa using hy)]; rfl
    · rw [if_neg hz, if_neg hz]
      simp only [List.count_cons, List.count_nil, beq_iff_eq]; by_cases hy : y = z0
      · subst hy; simp; omega
      · rw [if_neg hy, if_neg (fun e => hy e.symm)]; omega
theorem xon (h : DkH S w gd told t u) (m : FrameMode) : CallsD Tryz.prog 73 #[.pointer (some ⟨gd, 0, none⟩), .string ⟨befS.toArray⟩] m w fun e m' w' => m' = m ∧ ∃ S', e = .returned (.int .i64 0) ∧ DkW S' w' gd t u ∧ Stp S w S' w' := by
  obtain ⟨D, gs, g, gv, gm, σ, vs, vf, root, z0, h⟩ := h; have hS : S = dA D gd gv gm := h.eS; subst hS; have l1 := xhj z0 []; have l2 := xhj root (rt1 z0 []); have l3 := xhj root []; simp only [qs] at l1 l3; refine (dc_prune h.dc (rt1 root (rt1 z0 [])) (rt1 root []) h.inv (by simp) befS (by decide) z0 told h.i0 0 rfl (rt1_less root z0) (by omega) (by omega) m).mono ?_; rintro e m' w' ⟨hm, n, D', vs', vf', σ', h1, h2, h3, h4, h5, h6, h7⟩
  have hk : IsT σ' root 0 t := h.it.keep h5 h4 (fun y hy => hy) (by
    by_cases hz : root = 0
    · exact .inl hz
    · exact .inr (.root _ (by unfold rt1; rw [if_neg hz]; simp)))
  exact ⟨hm, dA D' gd gv gm, h1, ⟨D', gs, g, gv, gm, σ', vs', vf', root, ⟨h2, h4, hk, rfl, h.ok, by rw [h7, h.room], Nat.le_trans h6 h.used, rfl⟩⟩, h3⟩
end
structure Dsk where
  bytes : Sv
  synced : Int
  made : Bool
def Dsk.cells (x : Dsk) : List Value := [x.bytes.v, .int .i64 x.synced, .bool x.made]
theorem Dsk.len (x : Dsk) : x.cells.length = 3 := rfl
def Dsk.z : Dsk := ⟨Sv.nil, 0, false⟩
structure Rcd where
  ws : Sv
  body : Sv
  sum : Sv
  size : Int
def Rcd.cells (x : Rcd) : List Value := [x.ws.v, x.body.v, x.sum.v, .int .i64 x.size]
theorem Rcd.len (x : Rcd) : x.cells.length = 4 := rfl
theorem Rcd.one (x : Rcd) : ∀ u ∈ x.cells, u.oneCell' = true := by
  intro u hu; simp only [Rcd.cells, List.mem_cons, List.not_mem_nil, or_false] at hu; rcases hu with rfl | rfl | rfl | rfl <;> rfl
def Rcd.z : Rcd := ⟨Sv.nil, Sv.nil, Sv.nil, 0⟩
theorem Rcd.g_ws (x : Rcd) : x.cells[0]? = some x.ws.v := rfl
theorem Rcd.g_body (x : Rcd) : x.cells[1]? = some x.body.v := rfl
theorem bs147 : BS Tryz.prog 147 Dsk.z.cells [(0, 1), (1, 1), (2, 1)] := BS.of Tryz.underlying147 (by kernel_rfl) (by kernel_rfl)
theorem bd147_2 : Instr.fill (fun x => [(0, 1), (1, 1), (2, 1)].toArray[x]?) Dsk.z.cells.toArray [(2, .bool true)] = some ((⟨Sv.nil, 0, true⟩ : Dsk)).cells.toArray := by
  refine xaj (vs := [.bool true]) rfl rfl rfl (by rw [Dsk.len]; decide) ?_; rfl
def dskC (b : Sv) (s : Nat) : List Value := (⟨b, (s : Int), true⟩ : Dsk).cells
def DskP (Y : Nat → Prop) (w : World) (gk : Nat) (b : Sv) (l : List UInt8) (s : Nat) : Prop :=
  Blk w gk 147 (dskC b s) ∧ Y gk ∧ ∃ G, Gw 5 1 G b l.length (bvs l) ∧ ∀ x ∈ G, Blk w x.1 x.2.1 x.2.2 ∧ Y x.1
section
variable {Y : Nat → Prop} {w w' : World} {gk : Nat} {b : Sv} {l : List UInt8} {s : Nat}
theorem DskP.fr (h : DskP Y w gk b l s) {T : Nat → Prop} (hf : Fr T w w') (hT : ∀ k, Y k → ¬ T k) : DskP Y w' gk b l s := by
  obtain ⟨h1, h2, G, h3, h4⟩ := h; exact ⟨h1.fr hf (hT _ h2), h2, G, h3, fun x hx => ⟨(h4 x hx).1.fr hf (hT _ (h4 x hx).2), (h4 x hx).2⟩⟩
theorem DskP.below (h : DskP Y w gk b l s) (hb : Below w.heap.size w w') : DskP Y w' gk b l s := h.fr (T := fun _ => False) (Fr.of_below hb) (fun _ _ f => f)
theorem DskP.c0 (h : DskP Y w gk b l s) : w.cell? ⟨gk, 0, none⟩ = some b.v := by rw [h.1.cell]; rfl
theorem DskP.c1 (h : DskP Y w gk b l s) : w.cell? ⟨gk, 1, none⟩ = some (.int .i64 (s : Int)) := by rw [h.1.cell]; rfl
theorem DskP.c2 (h : DskP Y w gk b l s) : w.cell? ⟨gk, 2, none⟩ = some (.bool true) := by rw [h.1.cell]; rfl
theorem DskP.n (h : DskP Y w gk b l s) : b.n = l.length := by
  obtain ⟨_, _, G, h3, _⟩ := h; exact h3.len
theorem DskP.cap (h : DskP Y w gk b l s) : b.n ≤ b.c ∧ b.c ≤ maxLen := by
  obtain ⟨_, _, G, h3, _⟩ := h; exact h3.cap
theorem DskP.tx (h : DskP Y w gk b l s) : Tx w b.A b.n b.c l := by
  obtain ⟨h1, h2, G, h3, h4⟩ := h; refine ⟨h3.len.symm, h3.cap.1, h3.cap.2, ?_, fun _ _ h => h⟩; obtain ⟨hl, ⟨rfl, rfl, hn⟩ | ⟨g, cap, tl, rfl, rfl, q1, q2, q3⟩⟩ := h3
  · have : l = [] := List.eq_nil_of_length_eq_zero hn
    subst this; exact Rd.nil _ _
  · exact Rd.of_blk0 (h4 (g, 5, bvs l ++ tl) (by simp)).1
theorem DskP.cut (h : DskP Y w gk b l s) (m : Nat) (hm : m ≤ l.length) (s' : Nat) {w2 : World} (hf : Fr (· = gk) w w2) (hb : Blk w2 gk 147 (dskC ⟨b.A, m, b.c⟩ s')) : DskP Y w2 gk ⟨b.A, m, b.c⟩ (l.take m) s' := by
  obtain ⟨h1, h2, G, h3, h4⟩ := h; refine ⟨hb, h2, ?_⟩; have e : (l.take m).length = m := by simp; omega
  obtain ⟨hl, ⟨rfl, rfl, hn⟩ | ⟨g, cap, tl, rfl, rfl, q1, q2, q3⟩⟩ := h3
  · have : m = 0 := by omega
    subst this; exact ⟨[], ⟨by simp [bvs], .inl ⟨rfl, rfl, by simp⟩⟩, fun x hx => by cases hx⟩
  · have hne : g ≠ gk := by
      have := (h4 (g, 5, bvs l ++ tl) (by simp)).1; exact this.ne h1 (show (5 : Nat) ≠ 147 by decide)
    refine ⟨[(g, 5, bvs l ++ tl)], ⟨by simp [bvs], .inr ⟨g, cap, bvs (l.drop m) ++ tl, ?_, ?_, ?_, q2, ?_⟩⟩, fun x hx => ?_⟩
    · rw [← List.append_assoc, ← xb2, List.take_append_drop]
    · rw [e]
    · rw [e]; omega
    · rw [← List.append_assoc, ← xb2, List.take_append_drop]; exact q3
    · have h5 := h4 x hx
      rw [List.mem_singleton.1 hx] at h5 ⊢; exact ⟨h5.1.fr hf hne, h5.2⟩
theorem disk_new (w : World) : Calls Tryz.prog 17 #[] w fun e w' => ∃ gk, e = .returned (.pointer (some ⟨gk, 0, none⟩)) ∧ DskP (· = gk) w' gk Sv.nil [] 0 ∧ w.heap.size ≤ gk ∧ Below w.heap.size w w' := by
  have HL := Loc.start w; obtain ⟨w0, rfl⟩ := eW w; go_enter Tryz.func17, Tryz.ntmps17; go_upto_region 0 with fail; refine X1j ?_; go_upto_region 1 with fail; refine Xs ?_; refine xaa rfl _ (xbq bs147 _ rfl _ (by exact bd147_2)) ?_; refine X5 ?_; refine xcb rfl _ rfl HL (⟨Sv.nil, 0, true⟩ : Dsk).cells rfl ?_; clear HL; intro g2 w HL; refine Xz ?_; go_wp2_with fail; go_ret; have ho := HL.own _ (.head _); refine ⟨g2, rfl, ⟨ho.2, rfl, [], Gw.nil _ _, fun x hx => by cases hx⟩, ?_, HL.below⟩; have := ho.1; unfold Old at this; omega
theorem xhk (h : DskP Y w gk b l s) : Calls Tryz.prog 67 #[.pointer (some ⟨gk, 0, none⟩)] w fun e w' => e = .returned (.bool false) ∧ w = w' := by
  have hgk : Old w gk := h.1.lt; have hc2 := h.c2; clear h; have HL := Loc.start w; obtain ⟨w0, rfl⟩ := eW w; go_enter Tryz.func67, Tryz.ntmps67; go_upto_region 0 with fail; refine X1j ?_; go_upto_region 1 with fail; refine X1q ?_; refine xad rfl _ (xaf fa147_2 _ rfl _ rfl) ?_; refine X5 ?_; refine xad rfl _ (xax sc4 HL _ rfl _ rfl _ hgk hc2) ?_; refine X5 ?_; refine X1v ?_; go_wp2_with fail; go_ret; exact ⟨rfl, rfl⟩
theorem xj6 (h : DskP Y w gk b l s) : Calls Tryz.prog 24 #[.pointer (some ⟨gk, 0, none⟩)] w fun e w' => e = .returned (.int .i64 (s : Int)) ∧ w = w' := by
  have HH := hZ h; have hgk : Old w gk := h.1.lt; have hc1 := h.c1; clear h; have HL := Loc.start w; obtain ⟨w0, rfl⟩ := eW w; go_enter Tryz.func24, Tryz.ntmps24; go_upto_region 0 with fail; refine X1j ?_; go_upto_region 1 with fail; refine Xdi ?_; intro K hK; (with_reducible refine (xhk (HH.out.below HL.below)).mono ?_); rintro e w ⟨rfl, rfl⟩; refine X22 ?_; clear hK K; go_upto_region 3 with fail; refine X13 ?_; refine Xdj ?_; refine X5 ?_; refine xaa rfl _ (xax sc3 HL _ rfl _ rfl _ hgk hc1) ?_; refine X19 ?_; go_wp2_with fail; go_ret; exact ⟨rfl, rfl⟩
theorem xlh (h : DskP Y w gk b l s) (hl : l.length ≤ 140737488351232) : Calls Tryz.prog 21 #[.pointer (some ⟨gk, 0, none⟩)] w fun e w' => ∃ v : Sv, e = .returned v.v ∧ v.n = l.length ∧ Below w.heap.size w w' := by
  have HH := hZ h; have hgk : Old w gk := h.1.lt; have hc0 := h.c0; have HT := hZ h.tx; have HN := hZ h.n; clear h; have HL := Loc.start w; obtain ⟨w0, rfl⟩ := eW w; go_enter Tryz.func21, Tryz.ntmps21; go_upto_region 0 with fail; refine X1j ?_; go_upto_region 1 with fail; refine Xdi ?_; intro K hK; (with_reducible refine (xhk (HH.out.below HL.below)).mono ?_); rintro e w ⟨rfl, rfl⟩; refine X22 ?_; clear hK K; go_upto_region 3 with fail; refine X13 ?_; refine Xdk ?_; refine X5 ?_; refine xaa rfl _ (xax sc25 HL _ rfl _ rfl _ hgk hc0) ?_; refine X4z ?_; intro K hK; refine xem sl25 el5 _ _ rfl [] 0 Sv.nil [] (Gw.nil 5 1) HL rfl b.A b.n b.c (bvs l) rfl (HT.out.below HL.below).rd (by rw [xae, HN.out]; omega) (xbo _) (by have := HN.out; omega) (by have := HN.out; omega) ?_; clear HL; intro sv G w hG HL; refine X8z ?_; clear hK K; have HGL := hZ hG.len
  clear hG; go_wp2_with fail; go_ret; exact ⟨sv, rfl, by rw [HGL.out, HN.out]; omega, HL.below⟩
theorem xoo (h : DskP Y w gk b l s) : Calls Tryz.prog 70 #[.pointer (some ⟨gk, 0, none⟩)] w fun e w' => e = .returned (.int .i64 0) ∧ DskP Y w' gk b l l.length ∧ Fr (· = gk) w w' := by
  have HH := hZ h; have HN := hZ h.n; clear h; have HL := (Loc.start w).adopt (· = gk) [(gk, 147, dskC b s)] (fun x hx => by rw [List.mem_singleton.1 hx]; exact ⟨rfl, HH.out.1⟩) (by simp); simp only [qn] at HL; obtain ⟨w0, rfl⟩ := eW w; go_enter Tryz.func70, Tryz.ntmps70; go_upto_region 0 with fail; refine X1j ?_; go_upto_region 1 with fail; refine Xdi ?_; intro K hK; refine Xdl ?_; rintro e w ⟨rfl, rfl⟩; refine X22 ?_; clear hK K; go_upto_region 3 with fail; refine X31 ?_; refine Xdk ?_; refine X5 ?_; refine Xdm ?_; refine X5 ?_; refine X5k ?_; refine X15 ?_; refine Xdj ?_; refine X5 ?_; refine xa1 sc3 rfl _ _ rfl HL 0 gk 1 147 _ (dskC b b.n) (.int .i64 (b.n : Int)) rfl rfl rfl rfl (show 1 < 3 by decide) rfl ?_; clear HL; intro w HL; simp only [qg] at HL; refine X16 ?_; go_upto_region 4 with fail; refine X1j ?_; go_wp2_with fail; go_ret
  have hf : Fr (· = gk) w0 w := ⟨HL.fr.os, HL.fr.tape, HL.fr.output, HL.fr.size, fun k hk hn => HL.fr.block k hk (fun n => n ⟨hk, hn⟩)⟩; obtain ⟨h1, h2, G, h3, h4⟩ := HH.out; have hb := HL.blk (.head _); rw [HN.out] at hb; refine ⟨rfl, ⟨hb, h2, G, h3, fun x hx => ?_⟩, hf⟩; have h5 := h4 x hx; refine ⟨h5.1.fr hf ?_, h5.2⟩; obtain ⟨hl, ⟨rfl, rfl, hn⟩ | ⟨g, cap, tl, rfl, rfl, q1, q2, q3⟩⟩ := h3
  · cases hx
  · rw [List.mem_singleton.1 hx] at h5 ⊢
    exact h5.1.ne h1 (show (5 : Nat) ≠ 147 by decide)
end
end Go.Proofs.YtkjjdgnkelchfaaGreat
