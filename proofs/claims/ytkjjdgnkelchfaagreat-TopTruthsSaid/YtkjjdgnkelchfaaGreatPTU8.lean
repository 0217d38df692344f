import Derived.Test.YtkjjdgnkelchfaaGreatPTU7
set_option linter.unusedSimpArgs false
set_option linter.unusedVariables false
set_option maxRecDepth 100000
set_option maxHeartbeats 16000000
namespace Go.Proofs.YtkjjdgnkelchfaaGreat
open Go Go.RowKit
theorem Loc.less {w0 w : World} {D D' : Nat → Prop} {L : List (Nat × Nat × List Value)} (H : Loc w0 D L w) (h : ∀ k, D' k → D k) : Loc w0 D' L w :=
  ⟨⟨H.fr.os, H.fr.tape, H.fr.output, H.fr.size, fun k hk hn => H.heap (h k (Classical.not_not.1 hn))⟩, fun x hx => ⟨fun hd => (H.own x hx).1 (h _ hd), (H.own x hx).2⟩, H.nd, fun k hk => H.old k (h k hk)⟩
theorem xe5 {w : World} {base e z n : Nat} {v : Sv} {xs : List Value} (h : w.ownsRow base e z v.v n xs) : v.n = n := by
  obtain ⟨A, c, e, _⟩ := xgq h; unfold Sv.v at e; simp only [Value.slice.injEq] at e; exact e.2.1
section
variable {D : Nat → Prop} {w w' : World} {g : Nat} {σ σ' : Sb} {vs vf vs' vf' : Sv}
theorem xcd {w : World} {base e z n k : Nat} {v : Value} {xs : List Value} (h : w.ownsRow base e z v n xs) (hk : v.ownBlock = some k) : ∃ cs, Blk w k e cs := by
  obtain ⟨h1, h2⟩ := h; rcases h2 with ⟨h3, h4⟩ | ⟨k', cap, cur, h3, hk', hh, hn, hm, hs, ht⟩
  · rw [h3] at hk; cases hk
  · rw [h3] at hk
    simp [Value.ownBlock] at hk; subst hk; exact ⟨cur.toList, by simpa [Blk] using hh⟩
theorem SbP.vfvs (h : SbP D w g σ vs vf) {k : Nat} (hk : vf.v.ownBlock = some k) : vs.v.ownBlock ≠ some k := fun e => by
  obtain ⟨c1, h1⟩ := xcd h.free hk; obtain ⟨c2, h2⟩ := xcd h.slots e; exact h1.ne h2 (by decide) rfl
theorem xoo (h : SbP D w g σ vs vf) (x : Nd) (val : List UInt8) (hfree : σ.free = []) (hroom : σ.used < σ.room) (hx : ValOk D w g vs vf x.vs val) :
    Calls Tryz.prog 208 #[.pointer (some ⟨g, 0, none⟩), .agg x.cells.toArray] w fun e w' => ∃ D' vs', e = .returned (.tuple #[.int .i64 ((σ.slots.length + 1 : Nat) : Int), .int .i64 0]) ∧ SbP D' w' g (σ.takeN ⟨x, 1, val⟩) vs' vf ∧ Stp D w D' w' ∧ Fr (SbS g vs vf) w w' := by
  have hfn : vf.n = 0 := by rw [h.vfn, hfree]; rfl
  have hbg := h.blk; have hub := h.ok.fit; have hr2 := h.ok.r2; have hfew := h.ok.few; have k1 : ((σ.used : Int) == (σ.room : Int)) = false := by simp; omega
  have HU : Hid ((σ.used : Int) + 1 = ((σ.used + 1 : Nat) : Int)) := hZ (by omega); have hU2 : σ.used < 65536 := by omega
  have hS2 : σ.slots.length ≤ 65536 := by omega
  have hHE := hZ (And.intro hfree hfn); have HH := hZ h
  have hvg : ∀ k, vs.v.ownBlock = some k → Old w k ∧ ¬ k = g := fun k hk => ⟨h.lt k (h.own k (.inr (.inl hk))), by
    obtain ⟨h1, h2⟩ := h.slots; rcases h2 with ⟨h3, h4⟩ | ⟨k', cap, cur, h3, hk', hh, hn, hm, hs, ht⟩
    · rw [h3] at hk; cases hk
    · rw [h3] at hk
      simp [Value.ownBlock] at hk; subst hk; have hb2 : Blk w k' 340 cur.toList := by simpa [Blk] using hh
      exact hb2.ne h.blk (by decide)⟩
  rw [show vf.v = .slice vf.A 0 vf.c by unfold Sv.v; rw [hfn]] at hbg; clear hfree hub hfew hr2 h hfn; have HL := Loc.start w; obtain ⟨w0, rfl⟩ := eW w; go_enter Tryz.func208, Tryz.ntmps208; go_upto_region 0 with fail; refine X35 ?_; clear HL; intro g3 w HL; refine X1j ?_; go_upto_region 1 with fail; refine X20 ?_; intro K hK; (with_reducible refine (xff (HH.out.below HL.below)).mono ?_); rintro e w ⟨rfl, rfl⟩; refine X23 ?_; clear hK K; have hg3 : ¬ Old w0 g3 := (HL.own _ (.head _)).1; replace HL := HL.adopt (· = g) [(g, 318, [vs.v, .slice vf.A 0 vf.c, .int .i64 (σ.room : Int), .int .i64 (σ.used : Int)])] (by intro y hy; simp at hy; subst hy; exact ⟨rfl, hbg⟩) (by simp); simp only [qm, qn] at HL; go_upto_region 3 with fail; refine X36 ?_; refine X3b ?_; intro HL; refine xac rfl rfl HL (fun W hW => xaf xm2 _ rfl _ rfl) ?_; refine X5 ?_; refine X3t ?_; refine X3d ?_
  refine X3a ?_; refine xac rfl rfl HL (fun W hW => xaf xje _ rfl _ rfl) ?_; refine X5 ?_; refine X3t ?_; refine X3g ?_; go_upto_region 5 with fail; refine X16 ?_; refine X24 ?_; refine X5 ?_; refine xaa rfl _ (xag sc3 HL _ rfl _ _ rfl _ _ _ (.tail _ (.head _)) (rfl)) ?_; refine X5 ?_; refine X3h ?_; refine X24 ?_; refine X5 ?_; refine xaw sc3 rfl _ _ rfl HL 1 _ _ _ _ _ _ rfl rfl rfl rfl (by simp) (rfl) ?_; refine X3j ?_; clear HL; intro w HL; go_upto_region 6 with fail; refine X16 ?_; refine X3k ?_; refine X5 ?_; refine xaa rfl _ (xag sc71 HL _ rfl _ _ rfl _ _ _ (.tail _ (.head _)) (rfl)) ?_; refine X5 ?_; refine X3m ?_; refine X1c ?_; go_upto_region 7 with fail; refine X2r ?_; have hrow : w.ownsRow 0 340 104 vs.v σ.slots.length (rowS σ) := xbq HH.out.slots (fun k hk => HL.heap (hvg k hk))
  have hvlt : ∀ k, vs.v.ownBlock = some k → k < w.heap.size := fun k hk => HL.lt (hvg k hk)
  have HD := HL.less (D' := fun k => Old w0 k ∧ ¬ (k = g ∨ vs.v.ownBlock = some k)) (fun k hk => ⟨hk.1, fun e => hk.2 (.inl e)⟩); clear HL; have HL := HD; clear HD; have hsz0 : w0.heap.size ≤ w.heap.size := HL.fr.size; go_upto_region 12 with fail; refine rB (Loc.P HL) [11] [7, 8, 9, 10, 11] [0, 1, 2, 3, 4, 5, 6, 7, 8, 9, 10, 11] 0 ?_; refine X3u ?_; intro HL; refine X3a ?_; refine xac rfl rfl HL (fun W hW => xaf xfe _ rfl _ rfl) ?_; refine X5 ?_; refine xac rfl rfl HL (fun W hW => xag sc316 hW _ rfl _ _ rfl _ _ _ (.tail _ (.head _)) (rfl)) ?_; refine X5 ?_; refine X3p ?_; refine X3q ?_; refine Xk ?_; intro K hK; refine xia xol el340 (by decide) _ rfl _ rfl (Slo.len _) ?_; have hb := Blk.new w.drew 340 (x.slo 1).cells; replace hrow := xbq (w' := w.drew.alloc (.cells (x.slo 1).cells.toArray 340)) hrow (fun k hk => Below.heap_alloc w.drew _ k (hvlt k hk))
  replace HL := HL.next ((Below.refl _ _).alloc (Nat.le_refl _) (.cells (x.slo 1).cells.toArray 340)); refine X3w ?_; clear hK K; have hsz1 : w0.heap.size ≤ (w.drew.alloc (.cells (x.slo 1).cells.toArray 340)).heap.size := HL.fr.size; refine Xj ?_; intro K hK; refine xfg xol el340 _ _ rfl vs σ.slots.length (rowS σ) rfl hrow _ 1 1 (x.slo 1).cells rfl (Rd.of_blk0 (es := []) (by simpa using hb)) (Slo.len _) (Slo.one _) (by omega) (by omega) (by omega) ?_; intro vs' w1 hrow' hgr hv1 hv2; have hfT : Fr (fun k => vs.v.ownBlock = some k) (w.drew.alloc (.cells (x.slo 1).cells.toArray 340)) w1 := (Fr.refl _ _).grown hgr (fun g e => .inl e)
  replace HL := HL.frame hfT (fun k hk hd => hd.2 (.inr hk)) (by
    intro y hy e; simp at hy; rcases hy with rfl | rfl
    · exact hg3 (hvg _ e).1
    · exact (hvg _ e).2 rfl)
  have hn' : Hid (vs'.n = σ.slots.length + 1) := hZ (xe5 hrow')
  have hv3 : ∀ k, vs'.v.ownBlock = some k → k ≠ g ∧ (vs.v.ownBlock = some k ∨ w0.heap.size ≤ k) := by
    intro k hk; have hgl : g < w0.heap.size := hbg.lt; rcases hv1 k hk with h1 | h1
    · exact ⟨(hvg k h1).2, .inl h1⟩
    · exact ⟨by omega, .inr (by omega)⟩
  refine hK _ _ (fun _ => HL) ?_; clear hK K hfT hgr hv1 hrow hb; refine Xk ?_; intro K hK; refine X1e ?_; refine X3x ?_; clear hK K; intro K hK; refine xbs (xaf xfe _ rfl _ rfl) ?_; refine X3x ?_; clear hK K; intro K hK; refine xb5 sc316.i _ _ rfl g 0 318 _ vs'.v rfl rfl rfl (HL.blk (.tail _ (.head _))) (by simp) ?_; refine X3r ?_; clear hK K; replace HL := HL.putAt (i := 1) rfl ((HL.blk (.tail _ (.head _))).set_ 0 vs'.v) (xct _ _ _ _); simp only [qg, qh] at HL; have hrow2 := xbq (w' := w1.setCell ⟨g, 0, none⟩ vs'.v) hrow' (fun k hk => Below.heap_setCell w1 ⟨g, 0, none⟩ vs'.v k (hv3 k hk).1); have hlt2 : ∀ k, vs'.v.ownBlock = some k → k < (w1.setCell ⟨g, 0, none⟩ vs'.v).heap.size := fun k hk => by simpa using hv2 k hk
  clear hrow' hv2; generalize World.setCell w1 _ _ = w2 at *; refine Xc ?_; go_upto_region 13 with fail; refine X16 ?_; refine xaa rfl _ (xaf xfe _ rfl _ rfl) ?_; refine X5 ?_; refine xaa rfl _ (xag sc316 HL _ rfl _ _ rfl _ _ _ (.tail _ (.head _)) (rfl)) ?_; refine X5 ?_; refine xaa rfl _ (xa8 Tryz.underlying316 _ rfl _ _ _ rfl) ?_; refine X1j ?_; go_wp2_with fail; go_ret2; obtain ⟨hfree, hfn⟩ := hHE.out; have hg1 := HL.blk (.tail _ (.head _))
  have hfin : Fr (SbS g vs vf) w0 w2 := by
    refine ⟨HL.fr.os, HL.fr.tape, HL.fr.output, HL.fr.size, fun k hk hn => HL.heap ⟨hk, ?_⟩⟩; rintro (rfl | e)
    · exact hn (.inl rfl)
    · exact hn (.inr (.inl e))
  have hs2 : (σ.takeN ⟨x, 1, val⟩).slots.length = σ.slots.length + 1 := by simp [Sb.takeN]
  have hvf : vf.v = .slice vf.A 0 vf.c := by unfold Sv.v; rw [hfn]
  have hag := HH.out.again (σ' := σ.takeN ⟨x, 1, val⟩) (vs' := vs') (vf' := vf) hfin (by
    rintro k (rfl | e | e)
    · exact .inl (.inl rfl)
    · rcases (hv3 k e).2 with h1 | h1
      · exact .inl (.inr (.inl h1))
      · exact .inr h1
    · exact .inl (.inr (.inr e))) (by
    rintro k (rfl | e | e)
    · exact hg1.lt
    · exact hlt2 k e
    · exact Nat.lt_of_lt_of_le (HH.out.lt k (HH.out.own k (.inr (.inr e)))) HL.fr.size) (by rw [hvf]; exact hg1) (by
      rw [hs2]; have e1 : rowS (σ.takeN ⟨x, 1, val⟩) = rowS σ ++ (x.slo 1).cells := by simp [rowS, Sb.takeN, En.cells]
      rw [e1]
      exact hrow2) (xbq HH.out.free (fun k hk => HL.heap ⟨HH.out.lt k (HH.out.own k (.inr (.inr hk))), by
        rintro (e | e)
        · exact sbs_ne HH.out hk e
        · exact HH.out.vfvs hk e⟩)) (Sb.takeN_ok HH.out.ok _ hfree hroom) (by
      intro e he; rcases List.mem_append.1 he with he | he
      · exact .inl he
      · simp at he
        subst he; refine .inr ⟨?_, hx.2⟩; have h1 := hx.fr hfin (fun k hk => hk); refine ⟨h1.1.len, h1.1.cap, h1.1.max, h1.1.rd, fun ad e hk => ?_⟩; rcases hk with h2 | h2 | h2
        · exact h1.1.far ad e (.inl h2)
        · rcases (hv3 _ h2).2 with h3 | h3
          · exact h1.1.far ad e (.inr (.inl h3))
          · have := HH.out.lt _ (hx.2 ad e); omega
        · exact h1.1.far ad e (.inr (.inr h2)))
  refine ⟨_, vs', ?_, hag.1, hag.2, hfin⟩; rw [hn'.out]; rfl
def Sb.take (σ : Sb) (e : En) : Sb := match σ.free.getLast? with
  | some k => σ.takeF (k - 1) e
  | none => σ.takeN e
def Sb.next (σ : Sb) : Nat := match σ.free.getLast? with
  | some k => k
  | none => σ.slots.length + 1
theorem xsb (h : SbP D w g σ vs vf) (x : Nd) (val : List UInt8) (hroom : σ.used < σ.room) (hx : ValOk D w g vs vf x.vs val) :
    Calls Tryz.prog 208 #[.pointer (some ⟨g, 0, none⟩), .agg x.cells.toArray] w fun e w' => ∃ D' vs' vf', e = .returned (.tuple #[.int .i64 (σ.next : Int), .int .i64 0]) ∧ SbP D' w' g (σ.take ⟨x, 1, val⟩) vs' vf' ∧ Stp D w D' w' ∧ Fr (SbS g vs vf) w w' := by
  unfold Sb.take Sb.next
  cases hl : σ.free.getLast? with
  | none =>
    have hf : σ.free = [] := List.getLast?_eq_none_iff.1 hl; refine (xoo h x val hf hroom hx).mono ?_; rintro e w' ⟨D', vs', rfl, h1, h2, h3⟩; exact ⟨D', vs', vf, rfl, h1, h2, h3⟩
  | some k =>
    obtain ⟨fl, hf⟩ := List.getLast?_eq_some_iff.1 hl; have hk := (h.ok.fr k (by rw [hf]; simp)).1; have hk1 : k = (k - 1) + 1 := by omega
    have hf' : σ.free = fl ++ [(k - 1) + 1] := by rw [← hk1]; exact hf
    refine (xm5 h x val fl (k - 1) hf' hroom hx).mono ?_; rintro e w' ⟨D', vf', rfl, h1, h2, h3⟩; refine ⟨D', vs, vf', ?_, h1, h2, h3⟩; rw [← hk1]
theorem SbP.more {D' : Nat → Prop} (h : SbP D w g σ vs vf) (h1 : ∀ k, D k → D' k) (h2 : ∀ k, D' k → k < w.heap.size) : SbP D' w g σ vs vf :=
  ⟨h.blk, h.slots, h.free, h.ok, fun k hk => h1 k (h.own k hk), h2, fun e he => ⟨(h.vals e he).1, fun ad hd => h1 _ ((h.vals e he).2 ad hd)⟩⟩
theorem sb_new (r : Nat) (h1 : 1 ≤ r) (h2 : r ≤ 65536) : Calls Tryz.prog 151 #[.int .i64 (r : Int)] w fun e w' => ∃ g, e = .returned (.tuple #[.pointer (some ⟨g, 0, none⟩), .int .i64 0]) ∧ w.heap.size ≤ g ∧ SbP (· = g) w' g ⟨[], [], r, 0⟩ Sv.nil Sv.nil ∧ Below w.heap.size w w' := by
  have k1 : decide ((r : Int) < 1) = false := by simp; omega
  have k2 : decide (65536 < (r : Int)) = false := by simp; omega
  have HL := Loc.start w; obtain ⟨w0, rfl⟩ := eW w; go_enter Tryz.func151, Tryz.ntmps151; go_upto_region 0 with fail; refine X32 ?_; go_upto_region 1 with fail; refine X1m ?_; refine X1o ?_; refine X3y ?_; go_upto_region 3 with fail; refine X14 ?_; refine xaa rfl _ (xbf bs318 _ rfl _ (by exact bd318_32 _)) ?_; refine X5 ?_; refine xc2 rfl _ rfl HL _ rfl ?_; clear HL; intro g12 w HL; refine Xw ?_; refine X1i ?_; go_wp2_with fail; go_ret2; have hg := HL.blk (.head _); refine ⟨g12, rfl, ?_, ⟨hg, World.ownsRow_nil _ _ _ _, World.ownsRow_nil _ _ _ _, ⟨h1, h2, rfl, Nat.zero_le _, fun n hn => by simp at hn⟩, ?_, ?_, fun e he => by simp at he⟩, HL.below⟩
  · have := (HL.own _ (.head _)).1
    exact Nat.not_lt.1 this
  · rintro k (rfl | e | e)
    · rfl
    · cases e
    · cases e
  · rintro k rfl; exact hg.lt
end
end Go.Proofs.YtkjjdgnkelchfaaGreat
namespace Go.Proofs.YtkjjdgnkelchfaaGreat
open Go Go.RowKit Go.ChangeShapes Go.WideShapes Go.ChangeAt
section
variable {P : Program} (w : World)
end
section
variable {P : Program} {H : Type} {enc : TypeId × Value → H} {W : World} {base : Nat}
end
theorem ab25 : AB Tryz.prog 23 32 := ⟨⟨5, Tryz.underlying23, Tryz.underlying5, by kernel_rfl⟩, by kernel_rfl⟩
end Go.Proofs.YtkjjdgnkelchfaaGreat
namespace Go.Proofs.YtkjjdgnkelchfaaGreat
open Go Go.RowKit
def digL : List UInt8 := [48, 49, 50, 51, 52, 53, 54, 55, 56, 57, 97, 98, 99, 100, 101, 102]
def dig (k : Nat) : UInt8 := digL.getD k 0
def hexs (l : List UInt8) : List UInt8 := l.flatMap fun x => [dig (x.toNat / 16), dig (x.toNat % 16)]
def hexL (l : List UInt8) : List UInt8 := if l.length = 0 then [45] else hexs l
theorem xis (l : List UInt8) : (hexs l).length = 2 * l.length := by
  induction l with
  | nil => rfl
  | cons x l ih =>
    unfold hexs at ih ⊢; rw [List.flatMap_cons, List.length_append, ih]
    simp; omega
theorem xtn (l : List UInt8) (k : Nat) (h : k < l.length) : hexs (l.take (k + 1)) = hexs (l.take k) ++ [dig ((l[k]).toNat / 16), dig ((l[k]).toNat % 16)] := by
  rw [List.take_succ_eq_append_getElem h]; unfold hexs; rw [List.flatMap_append]; simp
section
variable {P : Program} {w : World} {ops : Array Oper} {o : Oper} {a : Act} {Q : Exit → Act → World → Prop}
theorem xfx {T : TypeId} (hT : P.underlying T = some .string) (x i : Operand) (ho : o.op = .index T x i) (t : List UInt8) (hx : a.eval x = .string ⟨t.toArray⟩) (k : IntKind) (j : Nat) (hi : a.eval i = .int k (j : Int)) (h : j < t.length) :
    (execOp a.eval o).run P w = .ok (.value (.int .u8 ((t[j]).toNat : Int))) w := by
  have hs : (0 : Int) ≤ (j : Int) ∧ (j : Int) < ((⟨t.toArray⟩ : ByteArray).size : Int) := ⟨by omega, by
    show (j : Int) < ((t.toArray.size : Nat) : Int)
    simp; exact h⟩
  have hr := run_index_string (P := P) w T ⟨t.toArray⟩ k (j : Int) hT; rw [dif_pos hs] at hr; unfold execOp; simp only [ho, hx, hi, Sem.run_bind, hr, Result.andThen_ok, Sem.run_pure]; rfl
theorem xi4 {T E S : TypeId} (B : BT P T E S) (ty g : Nat) (l sp : List UInt8) (hb : Blk w g E (bvs (l ++ sp))) (A : Option Addr) (m c : Nat) (y : List UInt8) (hy : y.length = m) (hr : Rd w A (bvs y)) (h0 : 0 < m) (hm : m ≤ sp.length) (hmax : l.length + sp.length ≤ maxLen) :
    ∃ w', (Builtin.append_ #[T, T] ty #[.slice (some ⟨g, 0, none⟩) l.length (l.length + sp.length), .slice A m c]).run P w = .ok (.slice (some ⟨g, 0, none⟩) (l.length + m) (l.length + sp.length)) w' ∧
      Blk w' g E (bvs (l ++ y ++ sp.drop m)) ∧ w.grownBy w' (some g) ∧ w'.heap.size = w.heap.size := by
  obtain ⟨i, hi, hz, hsz, hbb⟩ := info_parts B.i; subst hy; obtain ⟨ad, rfl, hc⟩ := hr (by rw [xae]; exact h0); have hml : (maxLen : Nat) = 9223372036854775807 := rfl; have hrun := run_append_room (P := P) w T ty E i B.t hi g l.length (l.length + sp.length) (bvs (l ++ sp)).toArray hb ad y.length c (bvs y) (by simp [bvs, hsz]) hc (xbk _) (by omega) (by simp [bvs, hsz]; omega)
  have e : ((bvs (l ++ sp)).toArray.toList.take (l.length * i.size) ++ bvs y ++ (bvs (l ++ sp)).toArray.toList.drop (l.length * i.size + (bvs y).length)) = bvs (l ++ y ++ sp.drop y.length) := by
    simp only [bvs, hsz, List.map_append, Nat.mul_one, List.length_map]; congr 1
    · congr 1
      exact List.take_left' (by simp)
    · rw [List.drop_append, List.map_drop]; simp
  have h1 := hb.row (bvs (l ++ y ++ sp.drop y.length)); rw [e] at hrun; exact ⟨_, hrun, h1, xc0 w g _, by simp⟩
theorem xj3 {T E S : TypeId} (B : BT P T E S) {K : Act → World → Prop} (s x : Operand) (ho : o.op = .call { callee := .builtin .append, args := #[s, x], argTypes := #[T, T] }) (g : Nat) (l sp : List UInt8) (n cap : Nat) (hn : l.length = n) (hcap : l.length + sp.length = cap)
    (hs : a.eval s = .slice (some ⟨g, 0, none⟩) n cap) (hb : Blk w g E (bvs (l ++ sp))) (A : Option Addr) (m c : Nat) (y : List UInt8) (hx : a.eval x = .slice A m c) (hy : y.length = m) (hr : Rd w A (bvs y)) (h0 : 0 < m) (hm : m ≤ sp.length) (hmax : cap ≤ maxLen)
    (h : ∀ w', Blk w' g E (bvs (l ++ y ++ sp.drop m)) → w.grownBy w' (some g) → w'.heap.size = w.heap.size → K (a.put o.dst (.slice (some ⟨g, 0, none⟩) (n + m) cap)) w') : o.wp P a w K Q := by
  subst hn; subst hcap; obtain ⟨w', hrun, h1, h2, h3⟩ := xi4 B o.type g l sp hb A m c y hy hr h0 hm hmax; unfold Oper.wp execOp; simp only [ho, resolve, invoke, builtin, Sem.run_bind, Sem.run_pure, Result.andThen_ok, List.map_toArray, qk, ql, hs, hx, hrun]; exact h w' h1 h2 h3
end
theorem and15 (x : Nat) (hx : x < 256) : bits .and .u8 (x : Int) 15 = ((x % 16 : Nat) : Int) := by
  have := u8_and_nat x 15 hx (by omega); rw [nat_mask4] at this; exact this
theorem dig_at (k : Nat) (h : k < 16) : digL[k]'(by simp [digL]; omega) = dig k := by
  unfold dig; rw [List.getD_eq_getElem?_getD, List.getElem?_eq_getElem (by simp [digL]; omega)]; rfl
theorem hex_any (A : Option Addr) (n c : Nat) (l : List UInt8) (w : World) (hr : Rd w A (bvs l)) (hl : l.length = n) (hn : n ≤ 140737488351232) :
    Calls Tryz.prog 45 #[.slice A n c] w fun e w' => e = .returned (.string ⟨(hexL l).toArray⟩) ∧ Below w.heap.size w w' := by
  have HL := hZ hl; by_cases h0 : n = 0
  · subst h0
    have e : hexL l = [45] := by unfold hexL; rw [if_pos hl]
    rw [e]; clear e hl; go_enter Tryz.func45, Tryz.ntmps45
    go_wp2
    go_ret; exact ⟨rfl, Below.refl _ _⟩
  · have e : hexL l = hexs l := by unfold hexL; rw [if_neg (by omega)]
    rw [e]; clear e hl; go_enter Tryz.func45, Tryz.ntmps45; go_wp2_with ((with_reducible refine xax 12 ?_); refine xg3 bt rfl _ _ rfl .i64 .i64 0 (2 * n) rfl (by go_num) (Nat.zero_le _) (by omega) ?_; intro w1 hb1 hw1 hs1); have hb0 : Blk w1 w.heap.size 5 (bvs (hexs (l.take 0) ++ List.replicate (2 * n - 2 * 0) 0)) := by simpa [hexs] using hb1
    clear hb1
    go_loopw [3, 15] (fun out i wr => ∃ k : Nat, k ≤ n ∧ i = .int .i64 (k : Int) ∧ out = .slice (some ⟨w.heap.size, 0, none⟩) (2 * k) (2 * n) ∧ Blk wr w.heap.size 5 (bvs (hexs (l.take k) ++ List.replicate (2 * n - 2 * k) 0)) ∧ Below w.heap.size w wr ∧ w.heap.size < wr.heap.size) (fun _ i _ => n - (intOf i).toNat)
    case atStart => exact ⟨0, by omega, by go_num, by first | rfl | simp, hb0, hw1, by omega⟩
    case round =>
      obtain ⟨k, hk, rfl, rfl, hb, hw, hz⟩ := hrel; obtain ⟨wq, rfl⟩ : ∃ wq : World, wq = wr := ⟨_, rfl⟩; by_cases hlt : k < n
      · have hkl : k < l.length := by rw [HL.out]; exact hlt
        obtain ⟨ad, rfl, hcc⟩ := hr (by rw [xae, HL.out]; omega)
        have hc : wq.cell? (ad.add k) = some (.int .u8 ((l[k]).toNat : Int)) := by
          have h1 := hcc k _ (by rw [xcz, List.getElem?_eq_getElem hkl]; rfl); exact (hw.cell (World.block_lt_of_cell? w _ h1)).trans h1
        have hs := hZ (xtn l k hkl); have hx8 : (l[k]).toNat < 256 := UInt8.toNat_lt _; generalize (l[k]).toNat = x at *; have hand := and15 x hx8; have hhl : Hid ((hexs (l.take k)).length = 2 * k) := by show _ = _; rw [xis]; simp; omega
        generalize hexs (l.take k) = hk0 at *; obtain ⟨q, hq⟩ : ∃ q, q = x / 16 := ⟨_, rfl⟩; obtain ⟨r, hrr⟩ : ∃ r, r = x % 16 := ⟨_, rfl⟩; have hq16 : q < 16 := by omega
        have hr16 : r < 16 := by omega
        have hdq : (x : Int) / 16 = (q : Int) := by omega
        rw [← hrr] at hand hs; rw [← hq] at hs; clear hq hrr; have hdl : digL.length = 16 := rfl; go_wp2_with fail; refine rB (Below w.heap.size w) [] [7, 8] [0, 1, 2, 3, 4, 5, 6, 7, 8, 9] 0 ?_; refine X2 ?_; have hS : (Below w.heap.size w) _ := hw.drew; refine X7 ?_; refine X6 ?_; refine xac rfl rfl hS (fun W hW => xfx Tryz.underlying9 (.const (.string ⟨digL.toArray⟩)) (.tmp 21) rfl digL rfl .u8 q rfl (by rw [hdl]; exact hq16)) ?_; refine X5 ?_; refine X7 ?_; refine xac rfl rfl hS (fun W hW => xfx Tryz.underlying9 (.const (.string ⟨digL.toArray⟩)) (.tmp 24) rfl digL rfl .u8 r rfl (by rw [hdl]; exact hr16)) ?_; refine X5 ?_; refine xb7 rfl rfl ?_; intro K hK; go_simp; rw [dig_at q hq16, dig_at r hr16]; have hS1 : Below w.heap.size w (wq.drew.alloc (.cells #[.int .u8 ((dig q).toNat : Int), .int .u8 ((dig r).toNat : Int)] 5)) := hS.alloc hS.size _
        refine X9 ?_; clear hK; refine Xj ?_; intro K hK; have hb1 : Blk (wq.drew.alloc (.cells #[.int .u8 ((dig q).toNat : Int), .int .u8 ((dig r).toNat : Int)] 5)) w.heap.size 5 (bvs (hk0 ++ List.replicate (2 * n - 2 * k) 0)) := hb.drew.alloc _; have hy : Rd (wq.drew.alloc (.cells #[.int .u8 ((dig q).toNat : Int), .int .u8 ((dig r).toNat : Int)] 5)) (some ⟨wq.heap.size, 0, none⟩) (bvs [dig q, dig r]) := Rd.of_blk0 (es := []) (by simpa [bvs, bv] using Blk.new wq.drew 5 [.int .u8 ((dig q).toNat : Int), .int .u8 ((dig r).toNat : Int)]); refine xj3 bt (.tmp 19) (.tmp 26) rfl w.heap.size hk0 (List.replicate (2 * n - 2 * k) 0) (2 * k) (2 * n) hhl.out (by rw [hhl.out]; simp; omega) rfl hb1 (some ⟨wq.heap.size, 0, none⟩) 2 2 [dig q, dig r] rfl rfl hy (by omega) (by simp; omega) (by unfold maxLen; omega) ?_; intro w2 hb2 hg2 hs2
        have hS2 : Below w.heap.size w w2 := hS1.grown hg2 hS1.size (by intro k hk; cases hk; exact Nat.le_refl _); refine Xa ?_; clear hK; refine Xm ?_; refine Xd ?_; have hdr : List.drop 2 (List.replicate (2 * n - 2 * k) (0 : UInt8)) = List.replicate (2 * n - 2 * (k + 1)) 0 := by rw [List.drop_replicate]; congr 1 <;> omega
        rw [hdr, ← hs.out] at hb2; clear hdr hb1 hy hg2 hs2; go_wp2_with fail; go_roundw
        case rel => exact ⟨k + 1, by omega, by go_num, by congr 1, hb2, hS2, hb2.lt⟩
        case measure => simp only [intOf]; omega
      · obtain rfl : k = n := by omega
        have htl : l.take k = l := List.take_of_length_le (by rw [HL.out]; exact Nat.le_refl _); rw [htl] at hb; have hlen : Hid ((hexs l).length = 2 * k) := by show _ = _; rw [xis, HL.out]
        have hrd : Rd wq (some ⟨w.heap.size, 0, none⟩) (bvs (hexs l)) := by rw [xbz] at hb; exact Rd.of_blk0 hb
        clear htl hb hb0; go_wp2_with ((with_reducible refine xax 30 ?_); refine xb9 bt rfl (.tmp 29) rfl (some ⟨w.heap.size, 0, none⟩) (2 * k) (2 * k) rfl (hexs l) hrd hlen.out ?_); go_ret; exact ⟨rfl, hw⟩
structure Made (w w' : World) (g t : Nat) (f : Value → List Value) (A : Option Addr) (c : Nat) (l : List UInt8) : Prop where
  blk : Blk w' g t (f (.slice A l.length c))
  cap : l.length ≤ c
  max : c ≤ maxLen
  rd : Rd w' A (bvs l)
  far : ∀ ad, A = some ad → ad.block ≠ g ∧ w.heap.size ≤ ad.block ∧ ad.block < w'.heap.size
  new : w.heap.size ≤ g
  bel : Below w.heap.size w w'
theorem OwnB.addr {w : World} {base E n c : Nat} {A : Option Addr} {l : List UInt8} (h : OwnB w base E (.slice A n c) l) : ∀ ad, A = some ad → base ≤ ad.block ∧ ad.block < w.heap.size := by
  rintro ad rfl; exact h.lt ad.block rfl
theorem xsc (A : Option Addr) (n c : Nat) (l : List UInt8) (w : World) (hr : Rd w A (bvs l)) (hl : l.length = n) (hn : n ≤ 140737488351232) :
    Calls Tryz.prog 52 #[.slice A n c] w fun e w' => ∃ g A' c', e = .returned (.pointer (some ⟨g, 0, none⟩)) ∧ Made w w' g 195 (fun v => [.bool true, .bool false, v]) A' c' l := by
  have HL := hZ hl; subst hl
  have ho : OwnB (w.alloc (.cells #[] 5)) w.heap.size 5 (.slice (some ⟨w.heap.size, 0, none⟩) 0 0) [] :=
    .inr ⟨w.heap.size, [], rfl, by omega, by simp, by simpa [bvs] using Blk.new w 5 []⟩
  have hrd1 : Rd (w.alloc (.cells #[] 5)) A (bvs l) := hr.alloc _; have hB1 : Below w.heap.size w (w.alloc (.cells #[] 5)) := (Below.refl _ _).alloc (Nat.le_refl _) _; go_enter Tryz.func52, Tryz.ntmps52
  go_wp2_with (
    (with_reducible refine xax 5 ?_); refine xb8 bt rfl (.tmp 3) (.tmp 4) rfl w.heap.size _ [] rfl ho A l.length c l rfl rfl hrd1 (by simp; omega) (by simp) ?_; intro v1 w1 ho1 hg1 _; have ho2 : OwnB w1 w.heap.size 5 v1 l := by simpa using ho1
    obtain ⟨A', c', rfl, hcl, hcm, hrd⟩ := ho2.rd)
  go_ret; have hB2 : Below w.heap.size w w1 := hB1.grown hg1 hB1.size (fun k hk => (ho.lt k hk).1); refine ⟨w1.heap.size, rfl, A', c', Blk.new w1 195 _, hcl, hcm, hrd.alloc _, ?_, hB2.size, hB2.alloc hB2.size _⟩; intro ad e; have := ho2.addr ad e; exact ⟨by omega, this.1, by simp; omega⟩
theorem xj4 (U : Nat) (h : U ≤ 65535) (w : World) : Calls Tryz.prog 101 #[.int .i64 (U : Int)] w fun e w' => ∃ v, e = .returned (.tuple #[v, .int .i64 0]) ∧ OwnB w' w.heap.size 5 v (be 2 U) ∧ Below w.heap.size w w' := by
  have := put16 (U : Int) w (by omega); have e1 : putE 65535 (U : Int) = 0 := by unfold putE; rw [if_pos (by omega)]
  have e2 : putL 2 65535 (U : Int) = be 2 U := by unfold putL; rw [if_pos (by omega), Int.toNat_natCast]
  rwa [e1, e2] at this
def xop : Value → Nat
  | .slice _ _ c => c
  | _ => 0
theorem sz24 : (Tryz.prog.info? 25).map (·.size) = some 1 := by kernel_rfl
theorem w24 : ∃ d, Tryz.prog.underlying 25 = some d ∧ d.isRow = false := ⟨_, Tryz.underlying25, rfl⟩
theorem xfy {w : World} {a : Act} {o : Oper} (x : Operand) (ho : o.op = .load 25 x) (ad : Addr) (v : Value) (hx : a.eval x = .pointer (some ad)) (hc : w.cell? ad = some v) : (execOp a.eval o).run Tryz.prog w = .ok (.value v) w := by
  obtain ⟨d, hu, hd⟩ := w24; exact xby hu hd x ho ad v hx hc
theorem xqq {w : World} {a : Act} {o : Oper} (x : Operand) (ho : o.op = .call { callee := .builtin .len, args := #[x], argTypes := #[50] }) (A : Option Addr) (n c : Nat) (hx : a.eval x = .slice A n c) :
    (execOp a.eval o).run Tryz.prog w = .ok (.value (.int .i64 (n : Int))) w := by
  unfold execOp; simp only [ho, resolve, invoke, builtin, Sem.run_bind, Sem.run_pure, Result.andThen_ok, List.map_toArray, qk, ql, hx]; go_simp
theorem one_lft8 {w : World} {g : Nat} (x : UInt8) (hg : g < w.heap.size) : Lft (· = g) (w.alloc (.cells #[.int .u8 (x.toNat : Int)] 5)) (some ⟨w.heap.size, 0, none⟩) 1 1 [x] := xmm x _ rfl hg
theorem xto (t : UInt8) (A : Option Addr) (n c : Nat) (vs : List Value) (ls : List (List UInt8)) (w : World) (hl : ls.length = n) (hr : Rd w A vs) (ha : AllRd w vs ls) (hmx : ∀ (i : Nat) (v : Value), vs[i]? = some v → xop v ≤ maxLen)
    (hn : n ≤ 1099511627776) (hb : ls.flatten.length + 1 ≤ 140737488355328) :
    Calls Tryz.prog 97 #[.int .u8 (t.toNat : Int), .slice A n c] w fun e w' => e = .returned (arr8 (shaL (t :: ls.flatten))) ∧ Below w.heap.size w w' := by
  have HL := hZ hl; have HM := hZ hmx; refine X1f ?_; intro hbz; refine X1g ?_; intro hw0; have C1 := fun u => hZ (xlq u)
  have HRL : Hid ((shaL (t :: ls.flatten)).length = 32) := hZ (xbb _); have C3 := fun (g : Nat) (u : World) (h : St u g (t :: ls.flatten)) => hZ (xlr g (t :: ls.flatten) u h (by simp only [qr]; omega))
  clear hl hmx; generalize shaL (t :: ls.flatten) = res at *; unfold arr8 at *; go_enter Tryz.func97, Tryz.ntmps97; go_upto_region 1 with fail; generalize hW : World.alloc w _ = w0; have h3 : Blk w0 w.heap.size 23 (bvs (zb 32)) ∧ Below w.heap.size w w0 := by rw [← hW]; exact ⟨hbz, hw0⟩
  clear hW hbz hw0; obtain ⟨hbz, hw0⟩ := h3; have hz := hbz.lt
  go_upto_region 2 with (first
    | (go_at_call 157; with_reducible refine (C1 _).out.mono ?_; rintro e w1 ⟨g, rfl, hg, hs1, hw1⟩))
  have hg1 := hs1.lt; have hs1a : St (w1.alloc (.cells #[.int .u8 (t.toNat : Int)] 5)) g [] := hs1.below ((Below.refl _ _).alloc (Nat.le_refl _) _); have W1 := hZ (xh7 g [] (some ⟨w1.heap.size, 0, none⟩) 1 t _ hs1a (one_lft8 t hg1) (by simp)); refine X1b ?_; refine wpList_plain rfl fun K hK => ?_; go_simp
  refine Xx ?_; clear hK; refine wpList_plain rfl fun K hK => ?_; go_simp
  (with_reducible refine W1.out.mono ?_); rintro e w2 ⟨rfl, hs2, hf2⟩; refine hK _ _ ?_; clear hK; refine X19 ?_; rw [List.nil_append] at hs2; have hb1 : Below w.heap.size w (w1.alloc (.cells #[.int .u8 (t.toNat : Int)] 5)) := (hw0.trans (hw1.mono hw0.size)).alloc (by have := hw1.size; omega) _; have hgw : w.heap.size < g := by omega
  have hb2 : Below w.heap.size w w2 := hb1.trans (xhe hf2 (fun k e => by rw [e]; omega) hb1.size); have hz2 : Blk w2 w.heap.size 23 (bvs (zb 32)) := ((hbz.below hw1 hz).alloc _).fr hf2 (fun e => by omega); have hs2' : St w2 g (t :: (ls.take 0).flatten) := by simpa using hs2
  clear W1 hs1 hs1a hf2 hb1 hg1 hbz hw0 hz hw1 C1 hs2; go_upto_region 3 with fail; refine X14 ?_; refine xaa rfl _ (xqq _ rfl A n c rfl) ?_; refine X1h ?_; go_wp2_with fail
  go_loopw [15] (fun i wr => ∃ k : Nat, k ≤ n ∧ i = .int .i64 (k : Int) ∧ St wr g (t :: (ls.take k).flatten) ∧ Blk wr w.heap.size 23 (bvs (zb 32)) ∧ Below w.heap.size w wr) (fun i _ => n - (intOf i).toNat)
  case atStart => exact ⟨0, by omega, by go_num, hs2', hz2, hb2⟩
  case round =>
    clear hs2' hz2 hb2; obtain ⟨k, hk, rfl, hs2, hz2, hb2⟩ := hrel; by_cases hlt : k < n
    · have hltz : (k : Int) < (n : Int) := by omega
      have hkl : k < ls.length := by rw [HL.out]; exact hlt
      obtain ⟨v, hv⟩ : ∃ v, vs[k]? = some v := ⟨_, List.getElem?_eq_getElem (by have := ha.1; omega)⟩; obtain ⟨ad, rfl, hcc⟩ := hr (by have := ha.1; omega); have hc := hZ ((hb2.cell (World.block_lt_of_cell? w _ (hcc k v hv))).trans (hcc k v hv)); obtain ⟨A1, d1, rfl, hd1, hrd⟩ := ha.2 k v ls[k] hv (List.getElem?_eq_getElem hkl); have hlen := xey ls k hkl; have HF := hZ (xdh ls k hkl); have hmd : d1 ≤ maxLen := HM.out k _ hv; have W2 := hZ (xd1 g (t :: (ls.take k).flatten) A1 ls[k].length d1 ls[k] wr hs2 rfl (fun h0 => rd_lft hrd rfl hd1 hmd h0 hb2 (Nat.le_of_lt hgw)) (by simp only [qr]; omega)); go_upto_region 5 with fail; refine Xv ?_; refine xaa rfl _ (exec_sia Tryz.underlying50 sz24 _ _ rfl ad n c k _ rfl rfl hlt) ?_; refine X5 ?_; refine xaa rfl _ (xfy _ rfl _ _ rfl hc.out) ?_; refine X1c ?_
      go_wp2_with (first
        | (go_at_call 158; with_reducible refine W2.out.mono ?_; rintro e w3 ⟨rfl, hs3, hf3⟩))
      go_roundw
      case rel =>
        refine ⟨k + 1, by omega, by go_num, ?_, hz2.fr hf3 (fun e => by omega), hb2.trans (xhe hf3 (fun k e => by rw [e]; omega) hb2.size)⟩; rw [HF.out]; exact hs3
      case measure => simp only [intOf]; omega
    · obtain rfl : k = n := by omega
      have hs3 : St wr g (t :: ls.flatten) := by rwa [List.take_of_length_le (by rw [HL.out]; exact Nat.le_refl _)] at hs2
      go_upto_region 8 with fail; refine X14 ?_; refine wpList_plain rfl fun K hK => ?_; go_simp
      (with_reducible refine (C3 g wr hs3).out.mono ?_); rintro e w3 ⟨rfl, hw3⟩; refine Xx ?_; clear hK; refine xal at25w.i rfl (.tmp 4) (.tmp 24) rfl w.heap.size 0 23 (bvs (zb 32)) (bvs res) rfl rfl (hz2.below hw3 hz2.lt) (by rw [xae]; exact HRL.out) (by rw [xae, xb6]; omega) (xbk _) ?_; intro w4 hb4 hg4 hs4; refine X19 ?_; go_wp2_with fail; refine Xf ?_; rw [xbo _ _ (by rw [xae, xae, xb6]; exact HRL.out.symm)] at hb4; refine bodyPost_ret (xci rfl at25w _ _ w.heap.size 23 (bvs res) rfl hb4 (by rw [xae]; exact HRL.out)) rfl ?_; exact ⟨rfl, (hb2.trans (hw3.mono hb2.size)).grown hg4 (by have := hb2.size; have := hw3.size; omega) (by intro k hk; cases hk; omega)⟩
theorem xhj (t : UInt8) (z : Int) (hz : (t.toNat : Int) = z) (A : Option Addr) (n c : Nat) (vs : List Value) (ls : List (List UInt8)) (w : World) (hl : ls.length = n) (hr : Rd w A vs) (ha : AllRd w vs ls) (hmx : ∀ (i : Nat) (v : Value), vs[i]? = some v → xop v ≤ maxLen)
    (hn : n ≤ 1099511627776) (hb : ls.flatten.length + 1 ≤ 140737488355328) :
    Calls Tryz.prog 97 #[.int .u8 z, .slice A n c] w fun e w' => e = .returned (arr8 (shaL (t :: ls.flatten))) ∧ Below w.heap.size w w' := by
  subst hz; exact xto t A n c vs ls w hl hr ha hmx hn hb
theorem xtp (w : World) : Calls Tryz.prog 43 #[] w fun e w' => e = .returned (arr8 (shaL [0])) ∧ Below w.heap.size w w' := by
  refine X1f ?_; intro hbz; refine X1g ?_; intro hw0; have C := fun u => hZ (xhj 0 0 rfl none 0 0 [] [] u rfl (Rd.nil _ _) (AllRd.nil _) (fun i v h => by simp at h) (by omega) (by simp))
  have HRL : Hid ((shaL [0]).length = 32) := hZ (xbb _); rw [show (0 : UInt8) :: ([] : List (List UInt8)).flatten = [0] from rfl] at C; generalize shaL [0] = res at *; unfold arr8 at *; go_enter Tryz.func43, Tryz.ntmps43; go_upto_region 1 with fail; refine Xv ?_; refine wpList_plain rfl fun K hK => ?_; go_simp
  refine (C _).out.mono ?_; rintro e w3 ⟨rfl, hw3⟩; refine Xx ?_; clear hK; refine xal at25w.i rfl (.tmp 0) (.tmp 1) rfl w.heap.size 0 23 (bvs (zb 32)) (bvs res) rfl rfl (hbz.below hw3 hbz.lt) (by rw [xae]; exact HRL.out) (by rw [xae, xb6]; omega) (xbk _) ?_; intro w4 hb4 hg4 hs4; refine X19 ?_; go_wp2_with fail; refine Xf ?_; rw [xbo _ _ (by rw [xae, xae, xb6]; exact HRL.out.symm)] at hb4; refine bodyPost_ret (xci rfl at25w _ _ w.heap.size 23 (bvs res) rfl hb4 (by rw [xae]; exact HRL.out)) rfl ?_; exact ⟨rfl, (hw0.trans (hw3.mono hw0.size)).grown hg4 (Nat.le_trans hw0.size hw3.size) (by intro k hk; cases hk; omega)⟩
theorem xtq (A : Option Addr) (n c : Nat) (l : List UInt8) (w : World) (hr : Rd w A (bvs l)) (hl : l.length = n) (hcap : n ≤ c) (hmax : c ≤ maxLen) (hn : n ≤ 140737488351232) :
    Calls Tryz.prog 42 #[.slice A n c] w fun e w' => e = .returned (arr8 (shaL (3 :: l))) ∧ Below w.heap.size w w' := by
  subst hl; have hbz : Blk ((w.alloc (.cells (bvs (zb 32)).toArray 23)).alloc (.cells #[.slice A l.length c] 25)) w.heap.size 23 (bvs (zb 32)) := (Blk.new _ _ _).alloc _; have hw0 : Below w.heap.size w ((w.alloc (.cells (bvs (zb 32)).toArray 23)).alloc (.cells #[.slice A l.length c] 25)) := ((Below.refl _ _).alloc (Nat.le_refl _) _).alloc (by simp) _
  have hR : Rd ((w.alloc (.cells (bvs (zb 32)).toArray 23)).alloc (.cells #[.slice A l.length c] 25)) (some ⟨w.heap.size + 1, 0, none⟩) [.slice A l.length c] := by
    have := Rd.one_blk (Blk.new (w.alloc (.cells (bvs (zb 32)).toArray 23)) 25 [.slice A l.length c]); rwa [show (w.alloc (.cells (bvs (zb 32)).toArray 23)).heap.size = w.heap.size + 1 by simp] at this
  have C := hZ (xhj 3 3 rfl (some ⟨w.heap.size + 1, 0, none⟩) 1 1 [.slice A l.length c] [l] _ rfl hR (AllRd.cons ⟨A, c, rfl, hcap, (hr.alloc _).alloc _⟩ (AllRd.nil _)) (fun i v h => by
    cases i with
    | zero => cases h; exact hmax
    | succ i => simp at h) (by omega) (by simp; omega))
  have HRL : Hid ((shaL (3 :: l)).length = 32) := hZ (xbb _); rw [show (3 : UInt8) :: [l].flatten = 3 :: l by simp] at C; generalize shaL (3 :: l) = res at *; unfold arr8 at *; go_enter Tryz.func42, Tryz.ntmps42; go_upto_region 1 with fail; refine X14 ?_; refine wpList_plain rfl fun K hK => ?_; go_simp
  refine Xx ?_; clear hK; refine wpList_plain rfl fun K hK => ?_; go_simp
  refine C.out.mono ?_; rintro e w3 ⟨rfl, hw3⟩; refine Xx ?_; clear hK; refine xal at25w.i rfl (.tmp 2) (.tmp 5) rfl w.heap.size 0 23 (bvs (zb 32)) (bvs res) rfl rfl (hbz.below hw3 hbz.lt) (by rw [xae]; exact HRL.out) (by rw [xae, xb6]; omega) (xbk _) ?_; intro w4 hb4 hg4 hs4; refine X19 ?_; go_wp2_with fail; refine Xf ?_; rw [xbo _ _ (by rw [xae, xae, xb6]; exact HRL.out.symm)] at hb4; refine bodyPost_ret (xci rfl at25w _ _ w.heap.size 23 (bvs res) rfl hb4 (by rw [xae]; exact HRL.out)) rfl ?_; exact ⟨rfl, (hw0.trans (hw3.mono hw0.size)).grown hg4 (Nat.le_trans hw0.size hw3.size) (by intro k hk; cases hk; omega)⟩
theorem ia23 : IA Tryz.prog 24 32 := ⟨⟨_, Tryz.underlying24, by kernel_rfl⟩⟩
theorem xj5 (u : World) (k v : List UInt8) (tk tv : TypeId) (g h : Nat) (hk : Blk u g tk (bvs k)) (hv : Blk u h tv (bvs v)) (lk : k.length = 32) (lv : v.length = 32) :
    Rd (u.alloc (.cells #[.slice (some ⟨g, 0, none⟩) 32 32, .slice (some ⟨h, 0, none⟩) 32 32] 25)) (some ⟨u.heap.size, 0, none⟩) [.slice (some ⟨g, 0, none⟩) 32 32, .slice (some ⟨h, 0, none⟩) 32 32] ∧
    AllRd (u.alloc (.cells #[.slice (some ⟨g, 0, none⟩) 32 32, .slice (some ⟨h, 0, none⟩) 32 32] 25)) [.slice (some ⟨g, 0, none⟩) 32 32, .slice (some ⟨h, 0, none⟩) 32 32] [k, v] ∧
    (∀ (i : Nat) (x : Value), [Value.slice (some ⟨g, 0, none⟩) 32 32, .slice (some ⟨h, 0, none⟩) 32 32][i]? = some x → xop x ≤ maxLen) := by
  refine ⟨Rd.of_blk0 (es := []) (by simpa using Blk.new u 25 [.slice (some ⟨g, 0, none⟩) 32 32, .slice (some ⟨h, 0, none⟩) 32 32]), AllRd.cons ⟨_, 32, by rw [lk], by omega, ?_⟩ (AllRd.cons ⟨_, 32, by rw [lv], by omega, ?_⟩ (AllRd.nil _)), ?_⟩
  · exact (Rd.of_blk0 (es := []) (by simpa using hk)).alloc _
  · exact (Rd.of_blk0 (es := []) (by simpa using hv)).alloc _
  · intro i x hx
    have hm : (32 : Nat) ≤ maxLen := by unfold maxLen; omega
    match i, hx with
    | 0, hx => cases hx; exact hm
    | 1, hx => cases hx; exact hm
    | i + 2, hx => simp at hx
theorem leaf_any (k v : List UInt8) (w : World) (lk : k.length = 32) (lv : v.length = 32) :
    Calls Tryz.prog 41 #[arr8 k, arr8 v] w fun e w' => e = .returned (arr8 (shaL (1 :: (k ++ v)))) ∧ Below w.heap.size w w' := by
  have b1 : Blk (w.alloc (.cells (bvs k).toArray 24)) w.heap.size 24 (bvs k) := Blk.new _ _ _
  have b2 : Blk ((w.alloc (.cells (bvs k).toArray 24)).alloc (.cells (bvs v).toArray 23)) (w.heap.size + 1) 23 (bvs v) := by
    have := Blk.new (w.alloc (.cells (bvs k).toArray 24)) 23 (bvs v); rwa [show (w.alloc (.cells (bvs k).toArray 24)).heap.size = w.heap.size + 1 by simp] at this
  have b3 : Blk (((w.alloc (.cells (bvs k).toArray 24)).alloc (.cells (bvs v).toArray 23)).alloc (.cells (bvs (zb 32)).toArray 23)) (w.heap.size + 2) 23 (bvs (zb 32)) := by
    have := Blk.new ((w.alloc (.cells (bvs k).toArray 24)).alloc (.cells (bvs v).toArray 23)) 23 (bvs (zb 32)); rwa [show ((w.alloc (.cells (bvs k).toArray 24)).alloc (.cells (bvs v).toArray 23)).heap.size = w.heap.size + 2 by simp] at this
  have hall := And.intro ((b1.alloc (.cells (bvs v).toArray 23)).alloc (.cells (bvs (zb 32)).toArray 23)) (And.intro (b2.alloc (.cells (bvs (zb 32)).toArray 23)) (And.intro b3
    ((((Below.refl w.heap.size w).alloc (Nat.le_refl _) (.cells (bvs k).toArray 24)).alloc (by simp) (.cells (bvs v).toArray 23)).alloc (by simp; omega) (.cells (bvs (zb 32)).toArray 23))))
  clear b1 b2 b3; have C := fun (u : World) (A : Option Addr) (vs : List Value) (hr : Rd u A vs) (ha : AllRd u vs [k, v]) (hm : ∀ (i : Nat) (x : Value), vs[i]? = some x → xop x ≤ maxLen) => hZ (xhj 1 1 rfl A 2 2 vs [k, v] u rfl hr ha hm (by omega) (by simp [lk, lv]))
  have HRL : Hid ((shaL (1 :: (k ++ v))).length = 32) := hZ (xbb _); rw [show (1 : UInt8) :: [k, v].flatten = 1 :: (k ++ v) by simp] at C; generalize shaL (1 :: (k ++ v)) = res at *; unfold arr8 at *; go_enter Tryz.func41, Tryz.ntmps41; go_upto_region 1 with fail; generalize hW : World.alloc (World.alloc (World.alloc w _) _) _ = w0; have h3 : Blk w0 w.heap.size 24 (bvs k) ∧ Blk w0 (w.heap.size + 1) 23 (bvs v) ∧ Blk w0 (w.heap.size + 2) 23 (bvs (zb 32)) ∧ Below w.heap.size w w0 := by rw [← hW]; exact hall
  clear hall hW; obtain ⟨c1, c2, c3, c4⟩ := h3; have T := xj5 w0.drew k v 24 23 w.heap.size (w.heap.size + 1) c1.drew c2.drew lk lv; have T2 := hZ T; clear T; refine rB (Any) [4] [2, 3, 4] [0, 1, 2, 3, 4] 0 ?_; refine X2 ?_; have hS : (Any) _ := xh6 w0.drew; refine xac rfl rfl hS (fun W hW => xd7 ia23 _ rfl w.heap.size 0 rfl) ?_; refine X3z ?_; refine X5 ?_; refine xb7 rfl rfl ?_; intro K hK; go_simp; refine X40 ?_; intro hS1; refine X9 ?_; clear hK; refine xb7 rfl rfl ?_; intro K hK; go_simp; refine (C _ _ _ T2.out.1 T2.out.2.1 T2.out.2.2).out.mono ?_; rintro e w3 ⟨rfl, hw3⟩; have hS2 := xh6 w3; refine Xa ?_; clear hK; refine Xj ?_; intro K hK
  refine xav at25w.i (.tmp 4) (.tmp 8) rfl (w.heap.size + 2) 0 23 (bvs (zb 32)) (bvs res) rfl rfl ((c3.drew.alloc _).below hw3 (c3.drew.alloc _).lt) (by rw [xae]; exact HRL.out) (by rw [xae, xb6]; omega) (xbk _) ?_; intro w4 hb4 hg4 hs4; refine Xl ?_; clear hK; refine Xc ?_; have c5 : Below w.heap.size w (w0.drew.alloc (.cells #[.slice (some ⟨w.heap.size, 0, none⟩) 32 32, .slice (some ⟨w.heap.size + 1, 0, none⟩) 32 32] 25)) := c4.drew.alloc (by have := c4.size; simpa using this) _; go_wp2_with fail; refine Xf ?_; rw [xbo _ _ (by rw [xae, xae, xb6]; exact HRL.out.symm)] at hb4; refine bodyPost_ret (xci rfl at25w _ _ (w.heap.size + 2) 23 (bvs res) rfl hb4 (by rw [xae]; exact HRL.out)) rfl ?_; exact ⟨rfl, (c5.trans (hw3.mono c5.size)).grown hg4 (Nat.le_trans c5.size hw3.size) (by intro k hk; cases hk; omega)⟩
theorem xtr (k v : List UInt8) (w : World) (lk : k.length = 32) (lv : v.length = 32) :
    Calls Tryz.prog 44 #[arr8 k, arr8 v] w fun e w' => e = .returned (arr8 (shaL (2 :: (k ++ v)))) ∧ Below w.heap.size w w' := by
  have b1 : Blk (w.alloc (.cells (bvs k).toArray 23)) w.heap.size 23 (bvs k) := Blk.new _ _ _
  have b2 : Blk ((w.alloc (.cells (bvs k).toArray 23)).alloc (.cells (bvs v).toArray 23)) (w.heap.size + 1) 23 (bvs v) := by
    have := Blk.new (w.alloc (.cells (bvs k).toArray 23)) 23 (bvs v); rwa [show (w.alloc (.cells (bvs k).toArray 23)).heap.size = w.heap.size + 1 by simp] at this
  have b3 : Blk (((w.alloc (.cells (bvs k).toArray 23)).alloc (.cells (bvs v).toArray 23)).alloc (.cells (bvs (zb 32)).toArray 23)) (w.heap.size + 2) 23 (bvs (zb 32)) := by
    have := Blk.new ((w.alloc (.cells (bvs k).toArray 23)).alloc (.cells (bvs v).toArray 23)) 23 (bvs (zb 32)); rwa [show ((w.alloc (.cells (bvs k).toArray 23)).alloc (.cells (bvs v).toArray 23)).heap.size = w.heap.size + 2 by simp] at this
  have hall := And.intro ((b1.alloc (.cells (bvs v).toArray 23)).alloc (.cells (bvs (zb 32)).toArray 23)) (And.intro (b2.alloc (.cells (bvs (zb 32)).toArray 23)) (And.intro b3
    ((((Below.refl w.heap.size w).alloc (Nat.le_refl _) (.cells (bvs k).toArray 23)).alloc (by simp) (.cells (bvs v).toArray 23)).alloc (by simp; omega) (.cells (bvs (zb 32)).toArray 23))))
  clear b1 b2 b3; have C := fun (u : World) (A : Option Addr) (vs : List Value) (hr : Rd u A vs) (ha : AllRd u vs [k, v]) (hm : ∀ (i : Nat) (x : Value), vs[i]? = some x → xop x ≤ maxLen) => hZ (xhj 2 2 rfl A 2 2 vs [k, v] u rfl hr ha hm (by omega) (by simp [lk, lv]))
  have HRL : Hid ((shaL (2 :: (k ++ v))).length = 32) := hZ (xbb _); rw [show (2 : UInt8) :: [k, v].flatten = 2 :: (k ++ v) by simp] at C; generalize shaL (2 :: (k ++ v)) = res at *; unfold arr8 at *; go_enter Tryz.func44, Tryz.ntmps44; go_upto_region 1 with fail; generalize hW : World.alloc (World.alloc (World.alloc w _) _) _ = w0; have h3 : Blk w0 w.heap.size 23 (bvs k) ∧ Blk w0 (w.heap.size + 1) 23 (bvs v) ∧ Blk w0 (w.heap.size + 2) 23 (bvs (zb 32)) ∧ Below w.heap.size w w0 := by rw [← hW]; exact hall
  clear hall hW; obtain ⟨c1, c2, c3, c4⟩ := h3; have T := xj5 w0.drew k v 23 23 w.heap.size (w.heap.size + 1) c1.drew c2.drew lk lv; have T2 := hZ T; clear T; refine rB (Any) [4] [2, 3, 4] [0, 1, 2, 3, 4] 0 ?_; refine X2 ?_; have hS : (Any) _ := xh6 w0.drew; refine xac rfl rfl hS (fun W hW => xd7 ia25 _ rfl w.heap.size 0 rfl) ?_; refine X3z ?_; refine X5 ?_; refine xb7 rfl rfl ?_; intro K hK; go_simp; refine X40 ?_; intro hS1; refine X9 ?_; clear hK; refine xb7 rfl rfl ?_; intro K hK; go_simp; refine (C _ _ _ T2.out.1 T2.out.2.1 T2.out.2.2).out.mono ?_; rintro e w3 ⟨rfl, hw3⟩; have hS2 := xh6 w3; refine Xa ?_; clear hK; refine Xj ?_; intro K hK
  refine xav at25w.i (.tmp 4) (.tmp 8) rfl (w.heap.size + 2) 0 23 (bvs (zb 32)) (bvs res) rfl rfl ((c3.drew.alloc _).below hw3 (c3.drew.alloc _).lt) (by rw [xae]; exact HRL.out) (by rw [xae, xb6]; omega) (xbk _) ?_; intro w4 hb4 hg4 hs4; refine Xl ?_; clear hK; refine Xc ?_; have c5 : Below w.heap.size w (w0.drew.alloc (.cells #[.slice (some ⟨w.heap.size, 0, none⟩) 32 32, .slice (some ⟨w.heap.size + 1, 0, none⟩) 32 32] 25)) := c4.drew.alloc (by have := c4.size; simpa using this) _; go_wp2_with fail; refine Xf ?_; rw [xbo _ _ (by rw [xae, xae, xb6]; exact HRL.out.symm)] at hb4; refine bodyPost_ret (xci rfl at25w _ _ (w.heap.size + 2) 23 (bvs res) rfl hb4 (by rw [xae]; exact HRL.out)) rfl ?_; exact ⟨rfl, (c5.trans (hw3.mono c5.size)).grown hg4 (Nat.le_trans c5.size hw3.size) (by intro k hk; cases hk; omega)⟩
def Tx (w : World) (A : Option Addr) (n c : Nat) (l : List UInt8) : Prop := Lft (fun _ => False) w A n c l
theorem Tx.below {w w' : World} {A : Option Addr} {n c : Nat} {l : List UInt8} (h : Tx w A n c l) (hb : Below w.heap.size w w') : Tx w' A n c l := ⟨h.len, h.cap, h.max, h.rd.below hb, fun _ _ h => h⟩
theorem xqr (A : Option Addr) (n c : Nat) (l : List UInt8) (w : World) (h : Tx w A n c l) (hn : n ≤ 1152921504606846976) : Calls Tryz.prog 117 #[.slice A n c] w fun e w' => e = .returned (arr8 (shaL l)) ∧ Below w.heap.size w w' :=
  sum_any A n c l w h.rd h.len h.cap h.max hn
theorem xoq {P : Program} {w : World} {a : Act} {o : Oper} {T T' n : Nat} {b : Bool} (B : AB P T n) (x y : Operand) (ho : o.op = .binOp .eql T x y T') (xs ys : List UInt8) (ex : a.eval x = .agg (bvs xs).toArray) (ey : a.eval y = .agg (bvs ys).toArray) (hx : xs.length = n) (hy : ys.length = n) (h : (xs == ys) = b) :
    (execOp a.eval o).run P w = .ok (.value (.bool b)) w := by rw [xd8 B x y ho xs ys ex ey hx hy, h]
theorem Tx.rd {w : World} {A : Option Addr} {n c : Nat} {l : List UInt8} (h : Tx w A n c l) : Rd w A (bvs l) := Lft.rd h
theorem Tx.len {w : World} {A : Option Addr} {n c : Nat} {l : List UInt8} (h : Tx w A n c l) : l.length = n := Lft.len h
theorem Tx.cap {w : World} {A : Option Addr} {n c : Nat} {l : List UInt8} (h : Tx w A n c l) : n ≤ c := Lft.cap h
theorem Tx.max {w : World} {A : Option Addr} {n c : Nat} {l : List UInt8} (h : Tx w A n c l) : c ≤ maxLen := Lft.max h
def xeh (l k : List UInt8) : Bool := !(l == k) && (shaL l == shaL k)
theorem exec_g0 {w : World} {a : Act} {o : Oper} (x : Operand) (ho : o.op = .fieldAddr 141 x 0) (g : Nat) (hx : a.eval x = .pointer (some ⟨g, 0, none⟩)) : (execOp a.eval o).run Tryz.prog w = .ok (.value (.pointer (some ⟨g, 0, none⟩))) w := by
  unfold execOp; simp only [ho, hx]; go_simp
theorem exec_g1 {w : World} {a : Act} {o : Oper} (x : Operand) (ho : o.op = .fieldAddr 141 x 1) (g : Nat) (hx : a.eval x = .pointer (some ⟨g, 0, none⟩)) : (execOp a.eval o).run Tryz.prog w = .ok (.value (.pointer (some ⟨g, 1, none⟩))) w := by
  unfold execOp; simp only [ho, hx]; go_simp
theorem xos {w : World} {g : Nat} {u v : Value} (h : Blk w g 141 [u, v]) : w.cell? ⟨g, 0, none⟩ = some u ∧ w.cell? ⟨g, 1, none⟩ = some v := ⟨by rw [h.cell]; rfl, by rw [h.cell]; rfl⟩
theorem xib (l k : List UInt8) : (Lib.compareBytes l k == 0) = (l == k) := by
  rw [Bool.eq_iff_iff]; simp only [beq_iff_eq]
  induction l generalizing k with
  | nil => cases k <;> simp [Lib.compareBytes]
  | cons a l ih =>
    cases k with
    | nil => simp [Lib.compareBytes]
    | cons b k =>
      rw [Lib.compareBytes]; by_cases h1 : a < b
      · rw [if_pos h1]
        constructor
        · intro h; exact absurd h (by decide)
        · intro h; rw [(List.cons.inj h).1] at h1; exact absurd h1 (UInt8.lt_irrefl _)
      · by_cases h2 : b < a
        · rw [if_neg h1, if_pos h2]
          constructor
          · intro h; exact absurd h (by decide)
          · intro h; rw [(List.cons.inj h).1] at h2; exact absurd h2 (UInt8.lt_irrefl _)
        · rw [if_neg h1, if_neg h2, ih]
          have e : a = b := UInt8.le_antisymm (UInt8.not_lt.1 h2) (UInt8.not_lt.1 h1); subst e; simp
theorem xbi {P : Program} {w : World} {a : Act} {o : Oper} {t t' : TypeId} {b : Bool} (x y : Operand) (ho : o.op = .binOp .neq t x y t') (m n : Int) (hx : a.eval x = .int .i64 m) (hy : a.eval y = .int .i64 n) (h : (m == n) = !b) :
    (execOp a.eval o).run P w = .ok (.value (.bool b)) w := by
  unfold execOp; simp only [ho, hx, hy]; go_simp; cases b <;> simp_all
theorem xts (A : Option Addr) (n c : Nat) (l : List UInt8) (B : Option Addr) (m d : Nat) (k : List UInt8) (w : World) (h1 : Tx w A n c l) (h2 : Tx w B m d k) (hn : n ≤ 140737488351232) (hm : m ≤ 140737488351232) :
    Calls Tryz.prog 66 #[.agg #[.slice A n c, .slice B m d]] w fun e w' => e = .returned (.bool (xeh l k)) ∧ Below w.heap.size w w' := by
  have b1 : Blk (w.alloc (.cells #[.slice A n c, .slice B m d] 141)) w.heap.size 141 [.slice A n c, .slice B m d] := Blk.new w 141 [.slice A n c, .slice B m d]; have hw0 : Below w.heap.size w (w.alloc (.cells #[.slice A n c, .slice B m d] 141)) := (Below.refl _ _).alloc (Nat.le_refl _) _; have CM := fun (u : World) (hu : Below w.heap.size w u) => hZ (xdy A n c l B m d k u (h1.below hu).rd h1.len (h2.below hu).rd h2.len)
  have S1 := fun (u : World) (hu : Below w.heap.size w u) => hZ (xqr A n c l u (h1.below hu) (by omega))
  have S2 := fun (u : World) (hu : Below w.heap.size w u) => hZ (xqr B m d k u (h2.below hu) (by omega))
  have HC := hZ (xib l k); have HL1 : Hid ((shaL l).length = 32) := hZ (xbb _); have HL2 : Hid ((shaL k).length = 32) := hZ (xbb _); obtain ⟨R, hR⟩ : ∃ R, xeh l k = R := ⟨_, rfl⟩; have HR := hZ hR; rw [hR]; clear hR; obtain ⟨z, hz⟩ : ∃ z, Lib.compareBytes l k = z := ⟨_, rfl⟩; rw [hz] at HC CM; by_cases hlk : l = k
  · have hz0 : z = 0 := by have h := HC.out; rw [show (l == k) = true by simp [hlk]] at h; simpa using h
    have hR0 : R = false := by have h := HR.out; unfold xeh at h; rw [show (l == k) = true by simp [hlk]] at h; simpa using h.symm
    subst hz0; subst hR0; clear hz HC HR hlk; go_enter Tryz.func66, Tryz.ntmps66; go_upto_region 1 with fail; generalize hW : World.alloc w _ = w0; have h3 : Blk w0 w.heap.size 141 [.slice A n c, .slice B m d] ∧ Below w.heap.size w w0 := by rw [← hW]; exact ⟨b1, hw0⟩
    clear hW b1 hw0; obtain ⟨b1, hw0⟩ := h3; refine X41 ?_; refine X2 ?_; refine X3 ?_; intro hS; refine X42 ?_; refine X5 ?_; refine X43 ?_; refine X5 ?_; refine X44 ?_; refine X5 ?_; refine X45 ?_; refine X5 ?_; refine xb7 rfl rfl ?_; intro K hK; go_simp; (with_reducible refine (CM _ (hw0.trans (Below.mono hS hw0.size))).out.mono ?_); rintro e _ ⟨rfl, rfl⟩; refine hK _ _ (fun _ => hS) ?_; clear hK; refine X7 ?_; refine X46 ?_; refine X46 ?_; refine X46 ?_; refine X46 ?_; refine xmf rfl rfl hS ?_; refine X5 ?_; refine xmf rfl rfl hS ?_; refine X5 ?_; refine xme rfl rfl hS ?_; refine Xe ?_; refine X4 ?_; refine Xd ?_; go_wp2_with fail; go_ret; exact ⟨rfl, hw0.trans (Below.mono hS hw0.size)⟩
  · have hz0 : (z == 0) = false := by rw [HC.out]; simp [hlk]
    have hRR : Hid ((shaL l == shaL k) = R) := hZ (by have h := HR.out; unfold xeh at h; rw [show (l == k) = false by simp [hlk]] at h; simpa using h); clear hz HC HR hlk; generalize shaL l = dl at *; generalize shaL k = dk at *; unfold arr8 at *; go_enter Tryz.func66, Tryz.ntmps66; go_upto_region 1 with fail; generalize hW : World.alloc w _ = w0; have h3 : Blk w0 w.heap.size 141 [.slice A n c, .slice B m d] ∧ Below w.heap.size w w0 := by rw [← hW]; exact ⟨b1, hw0⟩
    clear hW b1 hw0; obtain ⟨b1, hw0⟩ := h3; refine X41 ?_; refine X2 ?_; refine X3 ?_; intro hS; refine X42 ?_; refine X5 ?_; refine X43 ?_; refine X5 ?_; refine X44 ?_; refine X5 ?_; refine X45 ?_; refine X5 ?_; refine xb7 rfl rfl ?_; intro K hK; go_simp; (with_reducible refine (CM _ (hw0.trans (Below.mono hS hw0.size))).out.mono ?_); rintro e _ ⟨rfl, rfl⟩; refine hK _ _ (fun _ => hS) ?_; clear hK; refine xac rfl rfl hS (fun W hW => xbi (b := true) _ _ rfl z 0 rfl rfl hz0) ?_; refine Xe ?_; refine X42 ?_; refine X5 ?_; refine X43 ?_; refine X5 ?_; refine X44 ?_; refine X5 ?_; refine X45 ?_; refine X5 ?_; refine xb7 rfl rfl ?_; intro K hK; go_simp; (with_reducible refine (S1 _ (hw0.trans (Below.mono hS hw0.size))).out.mono ?_); rintro e w1 ⟨rfl, hw1⟩; have hS1 : Below w0.heap.size w0 w1 := Below.trans hS (hw1.mono (Below.size hS)); refine X9 ?_; clear hK
    refine xb7 rfl rfl ?_; intro K hK; go_simp; (with_reducible refine (S2 _ (hw0.trans (Below.mono hS1 hw0.size))).out.mono ?_); rintro e w2 ⟨rfl, hw2⟩; have hS2 : Below w0.heap.size w0 w2 := Below.trans hS1 (hw2.mono (Below.size hS1)); refine Xa ?_; clear hK; refine xac rfl rfl hS2 (fun W hW => xoq ab25 _ _ rfl dl dk rfl rfl HL1.out HL2.out hRR.out) ?_; refine Xm ?_; refine Xm ?_; refine Xd ?_; go_wp2_with fail; go_ret; exact ⟨rfl, hw0.trans (Below.mono hS2 hw0.size)⟩
theorem xtt : ∀ x, x < 256 → x ≠ 0 → (1 ≤ Lib.bitLen x ∧ Lib.bitLen x ≤ 8 ∧ x.testBit (Lib.bitLen x - 1) = true ∧ ∀ e, e < 8 - Lib.bitLen x → x.testBit (7 - e) = false) := by decide +kernel
theorem xtu (p q : List UInt8) (k : Nat) (hk : k < 32) (hl : ∀ j, j < k → p.getD j 0 = q.getD j 0) (h0 : (p.getD k 0).toNat ^^^ (q.getD k 0).toNat ≠ 0) :
    comm p q = 8 * k + (8 - Lib.bitLen ((p.getD k 0).toNat ^^^ (q.getD k 0).toNat)) := by
  obtain ⟨a, ha⟩ : ∃ a, a = (p.getD k 0).toNat := ⟨_, rfl⟩; obtain ⟨b, hb⟩ : ∃ b, b = (q.getD k 0).toNat := ⟨_, rfl⟩; have ha8 : a < 256 := by rw [ha]; exact UInt8.toNat_lt _
  have hb8 : b < 256 := by rw [hb]; exact UInt8.toNat_lt _
  rw [← ha, ← hb] at h0 ⊢; obtain ⟨h1, h2, h3, h4⟩ := xtt (a ^^^ b) (Nat.xor_lt_two_pow (n := 8) ha8 hb8) h0; apply xrs
  · omega
  · intro d hd
    unfold tb; by_cases hdk : d / 8 < k
    · rw [hl _ hdk]
    · have e : d / 8 = k := by omega
      rw [e, ← ha, ← hb]; have := h4 (d % 8) (by omega); rw [Nat.testBit_xor] at this; simpa using this
  · intro hlt
    unfold tb; have e : (8 * k + (8 - Lib.bitLen (a ^^^ b))) / 8 = k := by omega
    have e2 : 7 - (8 * k + (8 - Lib.bitLen (a ^^^ b))) % 8 = Lib.bitLen (a ^^^ b) - 1 := by omega
    rw [e, e2, ← ha, ← hb]; rw [Nat.testBit_xor] at h3; simpa using h3
theorem xj6 (p q : List UInt8) (w : World) (hp : p.length = 32) (hq : q.length = 32) :
    Calls Tryz.prog 147 #[arr8 p, arr8 q] w fun e w' => e = .returned (.int .i64 (comm p q : Nat)) ∧ Below w.heap.size w w' := by
  have HP := hZ hp; have HQ := hZ hq; clear hp hq; have h2 := Two.mk' w 24 p q; unfold arr8; by_cases he : p = q
  · have e1 : comm p q = 256 := by rw [he]; exact xsx q
    rw [e1]; have HE := hZ he; clear he; go_enter Tryz.func147, Tryz.ntmps147
    go_wp2_with (first
      | ((with_reducible refine xax 7 ?_); refine xaa rfl _ (xa7 at23' (.tmp 2) rfl _ 24 (bvs p) rfl h2.p (by rw [xae]; exact HP.out)) ?_)
      | ((with_reducible refine xax 8 ?_); refine xaa rfl _ (xa7 at23' (.tmp 3) rfl _ 24 (bvs q) rfl h2.q (by rw [xae]; exact HQ.out)) ?_)
      | ((with_reducible refine xax 9 ?_); refine xaa rfl (.bool true) (by rw [xd8 ab23 (.tmp 7) (.tmp 8) rfl p q rfl rfl HP.out HQ.out, HE.out, beq_self_eq_true]) ?_))
    go_ret; exact ⟨rfl, h2.b⟩
  · have HE := hZ he; clear he
    have hbeq : Hid ((p == q) = false) := by show _ = _; simpa using HE.out
    go_enter Tryz.func147, Tryz.ntmps147
    go_wp2_with (first
      | ((with_reducible refine xax 7 ?_); refine xaa rfl _ (xa7 at23' (.tmp 2) rfl _ 24 (bvs p) rfl h2.p (by rw [xae]; exact HP.out)) ?_)
      | ((with_reducible refine xax 8 ?_); refine xaa rfl _ (xa7 at23' (.tmp 3) rfl _ 24 (bvs q) rfl h2.q (by rw [xae]; exact HQ.out)) ?_)
      | ((with_reducible refine xax 9 ?_); refine xaa rfl (.bool false) (by rw [xd8 ab23 (.tmp 7) (.tmp 8) rfl p q rfl rfl HP.out HQ.out, hbeq.out]) ?_))
    generalize hW : (w.alloc (.cells (bvs p).toArray 24)).alloc (.cells (bvs q).toArray 24) = w0 at *; clear hW
    go_loopw [10] (fun i wr => ∃ k : Nat, k ≤ 32 ∧ i = .int .i64 (k : Int) ∧ (∀ j, j < k → p.getD j 0 = q.getD j 0) ∧ Below w0.heap.size w0 wr) (fun i _ => 32 - (intOf i).toNat)
    case atStart => exact ⟨0, by omega, by go_num, fun j hj => by omega, Below.refl _ _⟩
    case round =>
      obtain ⟨k, hk, rfl, hl, hw⟩ := hrel; have hb := h2.b.trans (hw.mono h2.b.size); by_cases hlt : k < 32
      · have hc1 : wr.cell? ⟨w.heap.size, k, none⟩ = some (.int .u8 ((p.getD k 0).toNat : Int)) := xhc (h2.p.below hw h2.p.lt) HP.out k hlt
        have hc2 : wr.cell? ⟨w.heap.size + 1, k, none⟩ = some (.int .u8 ((q.getD k 0).toNat : Int)) := xhc (h2.q.below hw h2.q.lt) HQ.out k hlt; have hx0 := u8_xor_nat (p.getD k 0).toNat (q.getD k 0).toNat (UInt8.toNat_lt _) (UInt8.toNat_lt _); have hx8 : (p.getD k 0).toNat ^^^ (q.getD k 0).toNat < 256 := Nat.xor_lt_two_pow (n := 8) (UInt8.toNat_lt _) (UInt8.toNat_lt _); have hxe := hZ (xtu p q k hlt hl)
        have hxn : Hid ((p.getD k 0).toNat ^^^ (q.getD k 0).toNat = 0 → p.getD k 0 = q.getD k 0) := by
          intro h; apply UInt8.toNat_inj.1; apply Nat.eq_of_testBit_eq; intro i; have h1 := congrArg (fun z => z.testBit i) h; simpa [Nat.testBit_xor] using h1
        obtain ⟨a, ha⟩ : ∃ a, a = p.getD k 0 := ⟨_, rfl⟩; obtain ⟨b, hbb⟩ : ∃ b, b = q.getD k 0 := ⟨_, rfl⟩; rw [← ha] at hc1 hx0 hx8 hxe hxn; rw [← hbb] at hc2 hx0 hx8 hxe hxn; have HA := hZ ha; clear ha; have HB := hZ hbb; clear hbb; generalize hx : a.toNat ^^^ b.toNat = x at *; have HX := hZ hx; clear hx; have HLK := hZ hl; clear hl; have h8 : Lib.bitLen x ≤ 8 := Lib.bitLen_le8 ⟨x, hx8⟩; go_wp2_with fail; refine rB (Below wr.heap.size wr) [] [] [0, 1, 2, 3, 4, 5, 6, 7] 0 ?_; refine X2 ?_; have hS : (Below wr.heap.size wr) _ := (Below.refl _ _).drew; refine X7 ?_; refine xac (v := ?_) rfl rfl hS ?_ ?_; rotate_left; (· intro W hW; have hcw1 := (Below.cell hW (World.block_lt_of_cell? _ _ hc1)).trans hc1; go_simp; try with_reducible rfl); refine X5 ?_; refine X7 ?_
        refine xac (v := ?_) rfl rfl hS ?_ ?_; rotate_left; (· intro W hW; have hcw2 := (Below.cell hW (World.block_lt_of_cell? _ _ hc2)).trans hc2; go_simp; try with_reducible rfl); refine Xe ?_; refine X4 ?_; refine Xd ?_; go_wp2_with (go_at_call 209; refine (xqi (x : Int) _ (by omega) (by omega)).mono ?_; rintro e w1 ⟨rfl, rfl⟩; rw [Int.toNat_natCast])
        · go_ret
          rename_i hh; have h0 : x ≠ 0 := by simpa using hh
          refine ⟨ret_i ?_, h2.b.trans ((hw.trans (hS.mono hw.size)).mono h2.b.size)⟩; have := hxe.out h0; rw [this]; omega
        · rename_i hh
          have h0 : x = 0 := by simpa using hh
          go_roundw
          case rel =>
            refine ⟨k + 1, by omega, by go_num, fun j hj => ?_, hw.trans (hS.mono hw.size)⟩; by_cases hjk : j = k
            · rw [hjk, ← HA.out, ← HB.out]; exact hxn.out h0
            · exact HLK.out j (by omega)
          case measure => simp only [intOf]; omega
      · obtain rfl : k = 32 := by omega
        exfalso; apply HE.out; apply List.ext_getElem?; intro i; by_cases hi : i < 32
        · have := hl i hi
          rw [List.getD_eq_getElem?_getD, List.getD_eq_getElem?_getD] at this; rw [List.getElem?_eq_getElem (by rw [HP.out]; exact hi), List.getElem?_eq_getElem (by rw [HQ.out]; exact hi)] at this ⊢; simpa using this
        · rw [List.getElem?_eq_none (by rw [HP.out]; omega), List.getElem?_eq_none (by rw [HQ.out]; omega)]
def xa1 (p q : List UInt8) (d : Int) : Bool := decide (0 ≤ d ∧ d ≤ 256 ∧ d ≤ comm p q)
theorem xtv (p q : List UInt8) (d : Int) (w : World) (hp : p.length = 32) (hq : q.length = 32) (hd : -9223372036854775808 ≤ d ∧ d ≤ 9223372036854775807) :
    Calls Tryz.prog 105 #[arr8 p, arr8 q, .int .i64 d] w fun e w' => e = .returned (.bool (xa1 p q d)) ∧ Below w.heap.size w w' := by
  have HP := hZ hp; have HQ := hZ hq; clear hp hq; have h2 := Two.mk' w 24 p q; by_cases h0 : d < 0
  · have e1 : xa1 p q d = false := by unfold xa1; simp; omega
    rw [e1]; clear e1; unfold arr8; go_enter Tryz.func105, Tryz.ntmps105; go_wp2_with fail; go_ret; exact ⟨rfl, h2.b⟩
  · by_cases h1 : 256 < d
    · have e1 : xa1 p q d = false := by unfold xa1; simp; omega
      rw [e1]; clear e1; unfold arr8; go_enter Tryz.func105, Tryz.ntmps105; go_wp2_with fail; go_ret; exact ⟨rfl, h2.b⟩
    · have e1 : xa1 p q d = decide (d ≤ comm p q) := by unfold xa1; congr 1; simp; omega
      rw [e1]; clear e1; have h2d : d ≤ 256 := by omega
      unfold arr8; go_enter Tryz.func105, Tryz.ntmps105
      go_wp2_with (first
        | ((with_reducible refine xax 14 ?_); refine xab (by simp [Region.wanted, yielded, Act.put, h2d]) _ (xa7 at23' (.tmp 3) rfl _ 24 (bvs p) rfl h2.p (by rw [xae]; exact HP.out)) ?_)
        | ((with_reducible refine xax 15 ?_); refine xab (by simp [Region.wanted, yielded, Act.put, h2d]) _ (xa7 at23' (.tmp 4) rfl _ 24 (bvs q) rfl h2.q (by rw [xae]; exact HQ.out)) ?_)
        | (go_at_call 147; refine (xj6 p q _ HP.out HQ.out).mono ?_; rintro e w1 ⟨rfl, hw1⟩))
      go_ret; exact ⟨rfl, h2.b.trans (hw1.mono h2.b.size)⟩
end Go.Proofs.YtkjjdgnkelchfaaGreat
