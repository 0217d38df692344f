import Derived.Test.YtkjjdgnkelchfaaGreatPCU7
set_option linter.unusedSimpArgs false
set_option linter.unusedVariables false
set_option maxRecDepth 100000
set_option maxHeartbeats 16000000
namespace Go.Proofs.YtkjjdgnkelchfaaGreat
open Go Go.RowKit
theorem Blk.ne {w : World} {g g' : Nat} {t t' : TypeId} {cs cs' : List Value} (h : Blk w g t cs) (h' : Blk w g' t' cs') (hne : t ≠ t') : g ≠ g' := by
  rintro rfl; unfold Blk at h h'; rw [h] at h'; injection h' with h'; injection h' with _ ht; exact hne ht
theorem Loc.adopt {w0 w : World} {L : List (Nat × Nat × List Value)} (H : Loc w0 (Old w0) L w) (S : Nat → Prop) (L2 : List (Nat × Nat × List Value)) (h2 : ∀ x ∈ L2, S x.1 ∧ Blk w0 x.1 x.2.1 x.2.2) (n2 : L2.Pairwise (fun x y => x.1 ≠ y.1)) :
    Loc w0 (fun k => Old w0 k ∧ ¬ S k) (L ++ L2) w := by
  refine ⟨⟨H.fr.os, H.fr.tape, H.fr.output, H.fr.size, fun k hk hn => H.heap hk⟩, ?_, ?_, fun k hk => hk.1⟩
  · intro x hx
    rcases List.mem_append.1 hx with hx | hx
    · exact ⟨fun hd => (H.own x hx).1 hd.1, (H.own x hx).2⟩
    · exact ⟨fun hd => hd.2 (h2 x hx).1, H.farO (h2 x hx).2⟩
  · refine List.pairwise_append.2 ⟨H.nd, n2, fun x hx y hy e => ?_⟩
    have h3 := (H.own x hx).1; rw [e] at h3; exact h3 (h2 y hy).2.lt
theorem Loc.frS {w0 w : World} {S : Nat → Prop} {L : List (Nat × Nat × List Value)} (H : Loc w0 (fun k => Old w0 k ∧ ¬ S k) L w) : Fr S w0 w :=
  ⟨H.fr.os, H.fr.tape, H.fr.output, H.fr.size, fun k hk hn => H.heap ⟨hk, hn⟩⟩
theorem xfb {w : World} {e z n G : Nat} {v : Sv} {xs sp : List Value} (hv : v = ⟨some ⟨G, 0, none⟩, n, v.c⟩) (hb : Blk w G e (xs ++ sp)) (hl : xs.length = n * z) (hn : n ≤ v.c) (hm : v.c ≤ maxLen) (hs : (xs ++ sp).length = v.c * z) : w.ownsRow 0 e z v.v n xs := by
  refine ⟨hl, .inr ⟨G, v.c, (xs ++ sp).toArray, by rw [hv]; rfl, Nat.zero_le _, hb, hn, hm, by simpa using hs, ?_⟩⟩; simp [List.take_left' hl]
theorem xeh (σ : Sb) : (rowS σ).length = σ.slots.length * 104 := xcc En.len _
section
variable {D : Nat → Prop} {w w' : World} {g : Nat} {σ : Sb} {vs vf : Sv}
theorem SbP.slotC (h : SbP D w g σ vs vf) (i : Nat) (hi : i < σ.slots.length) : ∃ G sp, vs = ⟨some ⟨G, 0, none⟩, σ.slots.length, vs.c⟩ ∧ D G ∧ SbS g vs vf G ∧ Blk w G 340 (rowS σ ++ sp) ∧ σ.slots.length ≤ vs.c ∧ vs.c ≤ maxLen ∧ (rowS σ ++ sp).length = vs.c * 104 := by
  obtain ⟨G, sp, e, ho, hb, h1, h2, h3⟩ := xfo h.slots (by omega); exact ⟨G, sp, e, h.own G (.inr (.inl ho)), .inr (.inl ho), hb, h1, h2, h3⟩
def ValOk (D : Nat → Prop) (w : World) (g : Nat) (vs vf : Sv) (x : Sv) (l : List UInt8) : Prop := Lft (SbS g vs vf) w x.A x.n x.c l ∧ ∀ ad, x.A = some ad → D ad.block
theorem ValOk.fr {D : Nat → Prop} {x : Sv} {l : List UInt8} (h : ValOk D w g vs vf x l) {T : Nat → Prop} (hf : Fr T w w') (hT : ∀ k, T k → SbS g vs vf k) : ValOk D w' g vs vf x l := ⟨h.1.fr hf hT, h.2⟩
def Sb.put (σ : Sb) (i : Nat) (e : En) : Sb := { σ with slots := σ.slots.set i e }
theorem Sb.put_ok (h : σ.Ok) (i : Nat) (e : En) : (σ.put i e).Ok := ⟨h.r1, h.r2, by simp [Sb.put, h.fit], by simpa [Sb.put] using h.few, fun n hn => by simpa [Sb.put] using h.fr n hn⟩
theorem SbP.turned (h : SbP D w g σ vs vf) (i : Nat) (hi : i < σ.slots.length) (e : En) (G : Nat) (sp : List Value) (hv : vs = ⟨some ⟨G, 0, none⟩, σ.slots.length, vs.c⟩) (hb : Blk w' G 340 (rowS (σ.put i e) ++ sp))
    (hl : (rowS σ ++ sp).length = vs.c * 104) (hc : σ.slots.length ≤ vs.c) (hm : vs.c ≤ maxLen) (hf : Fr (· = G) w w') (hg : G ≠ g) (hGf : vf.v.ownBlock ≠ some G) (hS : SbS g vs vf G) (he : ValOk D w' g vs vf e.nd.vs e.val) : SbP D w' g (σ.put i e) vs vf := by
  have hlen : (rowS (σ.put i e)).length = (rowS σ).length := by rw [xeh, xeh]; simp [Sb.put]
  have hT : ∀ k, k = G → SbS g vs vf k := fun k hk => by rw [hk]; exact hS
  refine ⟨h.blk.fr hf (fun e => hg e.symm), ?_, xba h.free (fun k hk => hf.block k (h.lt k (h.own k (.inr (.inr hk)))) (fun e => hGf (e ▸ hk))), Sb.put_ok h.ok i e, h.own, fun k hk => Nat.lt_of_lt_of_le (h.lt k hk) hf.size, ?_⟩
  · have hn : (σ.put i e).slots.length = σ.slots.length := by simp [Sb.put]
    rw [hn]; exact xfb hv hb (by rw [xeh, hn]) hc hm (by rw [List.length_append, hlen, ← List.length_append, hl])
  · intro x hx
    rcases List.mem_or_eq_of_mem_set hx with hx | rfl
    · have h1 := h.vals x hx
      exact ⟨h1.1.fr hf hT, h1.2⟩
    · exact he
theorem SbP.apart (h : SbP D w g σ vs vf) (G : Nat) (cs : List Value) (hb : Blk w G 340 cs) : G ≠ g ∧ vf.v.ownBlock ≠ some G := by
  refine ⟨hb.ne h.blk (by decide), fun e => ?_⟩; obtain ⟨h1, h2⟩ := h.free; rcases h2 with ⟨h3, h4⟩ | ⟨k, cap, cur, h3, hk, hh, hn, hm, hs, ht⟩
  · rw [h3] at e; cases e
  · rw [h3] at e
    simp [Value.ownBlock] at e; subst e; have hb2 : Blk w k 3 cur.toList := by simpa [Blk] using hh
    exact hb.ne hb2 (by decide) rfl
theorem En.s_nd (e : En) (x : Nd) (val : List UInt8) : splice e.cells 0 x.cells = (⟨x, e.count, val⟩ : En).cells := by
  have h := xbi [] e.nd.cells [.int .i64 e.count] x.cells (by rw [Nd.len, Nd.len]); simp only [qn, qs] at h; rw [En.cells_eq, En.cells_eq, h]
theorem En.s_count (e : En) (c : Int) : e.cells.set 103 (.int .i64 c) = (⟨e.nd, c, e.val⟩ : En).cells := Slo.s_count _ _
theorem sb_set (h : SbP D w g σ vs vf) (n : Int) (i : Nat) (hn : n = (i : Int) + 1) (hi : i < σ.slots.length) (hc : σ.slots[i].count ≠ 0) (x : Nd) (val : List UInt8) (hx : ValOk D w g vs vf x.vs val) :
    Calls Tryz.prog 232 #[.pointer (some ⟨g, 0, none⟩), .int .i64 n, .agg x.cells.toArray] w fun e w' => e = .returned (.int .i64 0) ∧ SbP D w' g (σ.put i ⟨x, σ.slots[i].count, val⟩) vs vf ∧ Fr (SbS g vs vf) w w' := by
  obtain ⟨G, sp, he, hD, hS, hb, hcap, hmx, hlen⟩ := h.slotC i hi; have HA : vs.A = some ⟨G, 0, none⟩ := by rw [he]
  have hspl : splice (rowS σ ++ sp) (i * 104 + 0) x.cells = rowS (σ.put i ⟨x, σ.slots[i].count, val⟩) ++ sp := by
    unfold rowS Sb.put; exact xkm En.len σ.slots sp i 0 x.cells _ hi (by rw [Nd.len]; omega) (En.s_nd _ _ _)
  have hfit : i * 104 + 0 + 103 ≤ (rowS σ ++ sp).length := by rw [hlen]; omega
  have HH := hZ (And.intro h (And.intro hn hc)); have HE := hZ he; have HSP := hZ hspl; have hap := h.apart G _ hb; have hlen' := hZ hlen; clear h he hn hc hspl hlen; have HL := Loc.start w; go_enter Tryz.func232, Tryz.ntmps232; go_upto_region 0 with fail; refine X2t ?_; clear HL; intro g5 w HL; refine X19 ?_; go_upto_region 1 with fail; refine X1z ?_; intro K hK; refine X2j ?_; rintro e w ⟨rfl, rfl⟩; refine X22 ?_; clear hK K; go_upto_region 3 with fail; refine X2k ?_; intro K hK; refine X2l ?_; refine X1y ?_; refine X2m ?_; rintro e w ⟨G', hG, rfl, rfl⟩; obtain rfl : G = G' := by rw [HA] at hG; cases hG; rfl
  refine X2n ?_; clear hK K; go_upto_region 4 with fail; refine X2o ?_; replace HL := HL.adopt (· = G) [(G, 340, rowS σ ++ sp)] (by intro y hy; simp at hy; subst hy; exact ⟨rfl, hb⟩) (by simp); simp only [qm, qn] at HL; go_upto_region 6 with fail; refine X11 ?_; refine X2s ?_; refine X15 ?_; refine xaa rfl _ (xg4 xqt _ rfl _ _ rfl) ?_; refine X5 ?_; refine xf2 xeg rfl _ _ rfl HL 1 G _ 340 _ _ _ rfl rfl rfl (Nd.len _) hfit (Nd.one _) HSP.out ?_; refine X2u ?_; clear HL; intro w HL; go_upto_region 7 with fail; refine X1j ?_; go_wp2_with fail; go_ret; have hf : Fr (· = G) _ _ := HL.frS; refine ⟨rfl, HH.out.1.turned i hi _ G sp HE.out (HL.blk (.tail _ (.head _))) hlen'.out hcap hmx hf hap.1 hap.2 hS (hx.fr hf (fun k hk => by rw [hk]; exact hS)), ?_⟩; exact ⟨hf.os, hf.tape, hf.output, hf.size, fun k hk hn => hf.block k hk (fun e => hn (by rw [e]; exact hS))⟩
theorem xmb (h : SbP D w g σ vs vf) (i : Nat) (hi : i < σ.slots.length) : ValOk D w g vs vf σ.slots[i].nd.vs σ.slots[i].val := h.vals _ (List.getElem_mem hi)
theorem xmc (i : Nat) (hi : i < σ.slots.length) (sp : List Value) (c : Int) : (rowS σ ++ sp).set (i * 104 + 103) (.int .i64 c) = rowS (σ.put i ⟨σ.slots[i].nd, c, σ.slots[i].val⟩) ++ sp := by
  unfold rowS Sb.put; exact fm_set En.len σ.slots sp i 103 _ _ hi (by omega) (En.s_count _ _)
theorem sb_hold (h : SbP D w g σ vs vf) (n : Int) (i : Nat) (hn : n = (i : Int) + 1) (hi : i < σ.slots.length) (hc : 0 < σ.slots[i].count) (hmax : σ.slots[i].count < 1073741824) :
    Calls Tryz.prog 188 #[.pointer (some ⟨g, 0, none⟩), .int .i64 n] w fun e w' => e = .returned (.int .i64 0) ∧ SbP D w' g (σ.put i ⟨σ.slots[i].nd, σ.slots[i].count + 1, σ.slots[i].val⟩) vs vf ∧ Fr (SbS g vs vf) w w' := by
  obtain ⟨G, sp, he, hD, hS, hb, hcap, hmx, hlen⟩ := h.slotC i hi; have HA : vs.A = some ⟨G, 0, none⟩ := by rw [he]
  have hfit : i * 104 + 103 < (rowS σ ++ sp).length := by rw [hlen]; omega
  have HG := hZ (xf3 i hi sp); have HSP := hZ (xmc i hi sp (σ.slots[i].count + 1)); refine X2v ?_; intro HH; have HV := hZ (xmb h i hi); have HE := hZ he; have hap := h.apart G _ hb; have hlen' := hZ hlen; have k1 : (σ.slots[i].count == 1073741824) = false := by simp; omega
  have HC := hZ (rfl : σ.slots[i].count + 1 = σ.slots[i].count + 1); clear h he hn hlen; have HL := Loc.start w; go_enter Tryz.func188, Tryz.ntmps188; go_upto_region 0 with fail; refine X1j ?_; go_upto_region 1 with fail; refine X1z ?_; intro K hK; refine X2j ?_; rintro e w ⟨rfl, rfl⟩; refine X22 ?_; clear hK K; go_upto_region 3 with fail; refine X2k ?_; intro K hK; refine X2l ?_; refine X1y ?_; refine X2m ?_; rintro e w ⟨G', hG, rfl, rfl⟩; obtain rfl : G = G' := by rw [HA] at hG; cases hG; rfl
  refine X2n ?_; clear hK K; go_upto_region 4 with fail; refine X2o ?_; replace HL := HL.adopt (· = G) [(G, 340, rowS σ ++ sp)] (by intro y hy; simp at hy; subst hy; exact ⟨rfl, hb⟩) (by simp); simp only [qn] at HL; go_upto_region 6 with fail; refine X13 ?_; refine X2w ?_; refine X2x ?_; refine X2a ?_; go_upto_region 8 with fail; refine X13 ?_; refine X2w ?_; refine X2x ?_; refine X5 ?_; refine xaa rfl _ (xay _ _ rfl _ _ _ rfl rfl HC.out (by omega)) ?_; refine X15 ?_; refine X2w ?_; refine X2y ?_; refine X2u ?_; clear HL; intro w HL; go_upto_region 9 with fail; refine X1j ?_; go_wp2_with fail; go_ret; have hf : Fr (· = G) _ _ := HL.frS; refine ⟨rfl, HH.out.1.turned i hi _ G sp HE.out (HL.blk (.head _)) hlen'.out hcap hmx hf hap.1 hap.2 hS (HV.out.fr hf (fun k hk => by rw [hk]; exact hS)), ?_⟩
  exact ⟨hf.os, hf.tape, hf.output, hf.size, fun k hk hn => hf.block k hk (fun e => hn (by rw [e]; exact hS))⟩
theorem xhb (h : SbP D w g σ vs vf) (n : Int) (i : Nat) (hn : n = (i : Int) + 1) (hi : i < σ.slots.length) (hc : 1 < σ.slots[i].count) (hmax : σ.slots[i].count < 1099511627776) :
    Calls Tryz.prog 190 #[.pointer (some ⟨g, 0, none⟩), .int .i64 n] w fun e w' => e = .returned (.tuple #[.bool false, .int .i64 0]) ∧ SbP D w' g (σ.put i ⟨σ.slots[i].nd, σ.slots[i].count - 1, σ.slots[i].val⟩) vs vf ∧ Fr (SbS g vs vf) w w' := by
  obtain ⟨G, sp, he, hD, hS, hb, hcap, hmx, hlen⟩ := h.slotC i hi; have HA : vs.A = some ⟨G, 0, none⟩ := by rw [he]
  have hfit : i * 104 + 103 < (rowS σ ++ sp).length := by rw [hlen]; omega
  have HG := hZ (xf3 i hi sp); have HSP := hZ (xmc i hi sp (σ.slots[i].count - 1))
  have HG2 : Hid ((rowS (σ.put i ⟨σ.slots[i].nd, σ.slots[i].count - 1, σ.slots[i].val⟩) ++ sp)[i * 104 + 103]? = some (.int .i64 (σ.slots[i].count - 1))) := by
    show _ = _; rw [← HSP.out, List.getElem?_set_self hfit]
  refine X2v ?_; intro HH; have HV := hZ (xmb h i hi); have HE := hZ he; have hap := h.apart G _ hb; have hlen' := hZ hlen; have k1 : decide (0 < σ.slots[i].count - 1) = true := by simp; omega
  have HC := hZ (rfl : σ.slots[i].count - 1 = σ.slots[i].count - 1); clear h he hn hlen; have HL := Loc.start w; go_enter Tryz.func190, Tryz.ntmps190; go_upto_region 0 with fail; refine X2z ?_; go_upto_region 1 with fail; refine X1z ?_; intro K hK; refine X2j ?_; rintro e w ⟨rfl, rfl⟩; refine X22 ?_; clear hK K; go_upto_region 3 with fail; refine X2k ?_; intro K hK; refine X2l ?_; refine X1y ?_; refine X2m ?_; rintro e w ⟨G', hG, rfl, rfl⟩; obtain rfl : G = G' := by rw [HA] at hG; cases hG; rfl
  refine X2n ?_; clear hK K; go_upto_region 4 with fail; refine X2o ?_; replace HL := HL.adopt (· = G) [(G, 340, rowS σ ++ sp)] (by intro y hy; simp at hy; subst hy; exact ⟨rfl, hb⟩) (by simp); simp only [qn] at HL; go_upto_region 6 with fail; refine X13 ?_; refine X2w ?_; refine X2x ?_; refine X5 ?_; refine xaa rfl _ (xa7 _ _ rfl _ _ _ rfl rfl HC.out (by omega)) ?_; refine X15 ?_; refine X2w ?_; refine X2y ?_; refine X2u ?_; clear HL; intro w HL; go_upto_region 7 with fail; refine X13 ?_; refine X30 ?_; refine X2a ?_; go_upto_region 8 with fail; refine X2z ?_; go_wp2_with fail; go_ret2; have hf : Fr (· = G) _ _ := HL.frS; refine ⟨rfl, HH.out.1.turned i hi _ G sp HE.out (HL.blk (.head _)) hlen'.out hcap hmx hf hap.1 hap.2 hS (HV.out.fr hf (fun k hk => by rw [hk]; exact hS)), ?_⟩
  exact ⟨hf.os, hf.tape, hf.output, hf.size, fun k hk hn => hf.block k hk (fun e => hn (by rw [e]; exact hS))⟩
end
structure Stp (D : Nat → Prop) (w : World) (D' : Nat → Prop) (w' : World) : Prop where
  new : ∀ k, D' k → D k ∨ w.heap.size ≤ k
  old : ∀ k, D k → D' k
  fr : Fr D w w'
theorem Stp.refl (D : Nat → Prop) (w : World) : Stp D w D w := ⟨fun k h => .inl h, fun k h => h, Fr.refl _ _⟩
theorem Stp.of_below {D : Nat → Prop} {w w' : World} (h : Below w.heap.size w w') : Stp D w D w' := ⟨fun k h => .inl h, fun k h => h, Fr.of_below h⟩
theorem Stp.of_fr {D S : Nat → Prop} {w w' : World} (h : Fr S w w') (hS : ∀ k, S k → D k) : Stp D w D w' :=
  ⟨fun k h => .inl h, fun k h => h, ⟨h.os, h.tape, h.output, h.size, fun k hk hn => h.block k hk (fun s => hn (hS k s))⟩⟩
theorem Stp.trans {D D1 D2 : Nat → Prop} {w w1 w2 : World} (h : Stp D w D1 w1) (k : Stp D1 w1 D2 w2) : Stp D w D2 w2 :=
  ⟨fun b hb => by
    rcases k.new b hb with h1 | h1
    · exact h.new b h1
    · exact .inr (Nat.le_trans h.fr.size h1), fun b hb => k.old b (h.old b hb),
   ⟨k.fr.os.trans h.fr.os, k.fr.tape.trans h.fr.tape, k.fr.output.trans h.fr.output, Nat.le_trans h.fr.size k.fr.size, fun b hb hn => (k.fr.block b (Nat.lt_of_lt_of_le hb h.fr.size) (fun hd => by
    rcases h.new b hd with h1 | h1
    · exact hn h1
    · omega)).trans (h.fr.block b hb hn)⟩⟩
section
variable {D : Nat → Prop} {w w' : World} {g : Nat} {σ σ' : Sb} {vs vf vs' vf' : Sv}
theorem SbP.again (h : SbP D w g σ vs vf) (hf : Fr (SbS g vs vf) w w') (hS : ∀ k, SbS g vs' vf' k → SbS g vs vf k ∨ w.heap.size ≤ k) (hlt : ∀ k, SbS g vs' vf' k → k < w'.heap.size)
    (blk : Blk w' g 318 [vs'.v, vf'.v, .int .i64 (σ'.room : Int), .int .i64 (σ'.used : Int)]) (slots : w'.ownsRow 0 340 104 vs'.v σ'.slots.length (rowS σ')) (free : w'.ownsRow 0 3 1 vf'.v σ'.free.length (rowF σ')) (ok : σ'.Ok)
    (hv : ∀ e ∈ σ'.slots, e ∈ σ.slots ∨ (Lft (SbS g vs' vf') w' e.nd.vs.A e.nd.vs.n e.nd.vs.c e.val ∧ ∀ ad, e.nd.vs.A = some ad → D ad.block)) :
    SbP (fun k => D k ∨ SbS g vs' vf' k) w' g σ' vs' vf' ∧ Stp D w (fun k => D k ∨ SbS g vs' vf' k) w' := by
  refine ⟨⟨blk, slots, free, ok, fun k hk => .inr hk, ?_, ?_⟩, ?_, fun k hk => .inl hk, ?_⟩
  · intro k hk
    rcases hk with hk | hk
    · exact Nat.lt_of_lt_of_le (h.lt k hk) hf.size
    · exact hlt k hk
  · intro e he
    rcases hv e he with h1 | ⟨h1, h2⟩
    · obtain ⟨h2, h3⟩ := h.vals e h1
      refine ⟨⟨h2.len, h2.cap, h2.max, h2.rd.fr hf (fun ad e t => h2.far ad e t), ?_⟩, fun ad e => .inl (h3 ad e)⟩; intro ad e hk; rcases hS _ hk with h4 | h4
      · exact h2.far ad e h4
      · have := h.lt _ (h3 ad e); omega
    · exact ⟨h1, fun ad e => .inl (h2 ad e)⟩
  · intro k hk
    rcases hk with hk | hk
    · exact .inl hk
    · rcases hS k hk with h1 | h1
      · exact .inl (h.own k h1)
      · exact .inr h1
  · exact ⟨hf.os, hf.tape, hf.output, hf.size, fun k hk hn => hf.block k hk (fun s => hn (h.own k s))⟩
def Sb.letGo (σ : Sb) (i : Nat) : Sb := ⟨σ.slots.set i ⟨Nd.z, 0, []⟩, σ.free ++ [i + 1], σ.room, σ.used - 1⟩
theorem Sb.letGo_ok (h : σ.Ok) (i : Nat) (hi : i < σ.slots.length) (hu : 1 ≤ σ.used) : (σ.letGo i).Ok :=
  ⟨h.r1, h.r2, by have := h.fit; simp [Sb.letGo]; omega, by simpa [Sb.letGo] using h.few, fun n hn => by
    simp only [Sb.letGo, List.mem_append, List.mem_singleton] at hn; simp only [Sb.letGo, List.length_set]; rcases hn with hn | rfl
    · exact h.fr n hn
    · omega⟩
theorem slo_z : Slo.z.cells = (⟨Nd.z, 0, []⟩ : En).cells := rfl
theorem row_go (i : Nat) (hi : i < σ.slots.length) (e : En) (sp : List Value) : splice (rowS (σ.put i e) ++ sp) (i * 104) Slo.z.cells = rowS (σ.letGo i) ++ sp := by
  unfold rowS Sb.put Sb.letGo; rw [slo_z, xd8 En.len _ sp i _ (by simpa using hi), List.set_set]
theorem xph {k : Nat} (h : SbP D w g σ vs vf) (hk : vf.v.ownBlock = some k) : k ≠ g := by
  obtain ⟨h1, h2⟩ := h.free; rcases h2 with ⟨h3, h4⟩ | ⟨k', cap, cur, h3, hk', hh, hn, hm, hs, ht⟩
  · rw [h3] at hk; cases hk
  · rw [h3] at hk
    simp [Value.ownBlock] at hk; subst hk; have hb2 : Blk w k' 3 cur.toList := by simpa [Blk] using hh
    exact hb2.ne h.blk (by decide)
theorem xpi (h : SbP D w g σ vs vf) (n : Int) (i : Nat) (hn : n = (i : Int) + 1) (hi : i < σ.slots.length) (hc : σ.slots[i].count = 1) (hu : 1 ≤ σ.used) :
    Calls Tryz.prog 190 #[.pointer (some ⟨g, 0, none⟩), .int .i64 n] w fun e w' => ∃ D' vf', e = .returned (.tuple #[.bool true, .int .i64 0]) ∧ SbP D' w' g (σ.letGo i) vs vf' ∧ Stp D w D' w' ∧ Fr (SbS g vs vf) w w' := by
  obtain ⟨G, sp, he, hD, hS, hb, hcap, hmx, hlen⟩ := h.slotC i hi; have HA : vs.A = some ⟨G, 0, none⟩ := by rw [he]
  have hfit : i * 104 + 103 < (rowS σ ++ sp).length := by rw [hlen]; omega
  have HG := hZ (xf3 i hi sp); rw [hc] at HG; have HSP := hZ (xmc i hi sp 0); have hlen2 : (rowS (σ.put i ⟨σ.slots[i].nd, 0, σ.slots[i].val⟩) ++ sp).length = (rowS σ ++ sp).length := by rw [← HSP.out, List.length_set]
  have HG2 : Hid ((rowS (σ.put i ⟨σ.slots[i].nd, 0, σ.slots[i].val⟩) ++ sp)[i * 104 + 103]? = some (.int .i64 0)) := by
    show _ = _; rw [← HSP.out, List.getElem?_set_self hfit]
  have HGO := hZ (row_go i hi ⟨σ.slots[i].nd, 0, σ.slots[i].val⟩ sp); have hfit2 : i * 104 + 104 ≤ (rowS (σ.put i ⟨σ.slots[i].nd, 0, σ.slots[i].val⟩) ++ sp).length := by rw [hlen2]; omega
  refine X2v ?_; intro HH; have HE := hZ he; have hap := h.apart G _ hb; have hlen' := hZ hlen; have hub := h.ok.fit; have hfew := h.ok.few; have hr2 := h.ok.r2; have hused : (σ.used : Int) - 1 = ((σ.used - 1 : Nat) : Int) := by omega
  have HU := hZ hused; have hU2 : σ.used ≤ 65536 := by omega
  have hF2 : σ.free.length ≤ 65536 := by omega
  have hbg := h.blk; have hifew : i + 1 ≤ 65536 := by omega
  have HN : n = ((i + 1 : Nat) : Int) := by omega
  have hg0 := hZ h.D_g; clear h he hn hlen hlen2 hub hfew hr2 hc hused; subst HN; have HL := Loc.start w; obtain ⟨w0, rfl⟩ := eW w; go_enter Tryz.func190, Tryz.ntmps190; go_upto_region 0 with fail; refine X2z ?_; go_upto_region 1 with fail; refine X1z ?_; intro K hK; refine X2j ?_; rintro e w ⟨rfl, rfl⟩; refine X22 ?_; clear hK K; go_upto_region 3 with fail; refine X2k ?_; intro K hK; refine X2l ?_; refine X1y ?_; (with_reducible refine (xk3 (HH.out.1.below HL.below) _ i HH.out.2.1 hi HH.out.2.2).mono ?_); rintro e w ⟨G', hG, rfl, rfl⟩; obtain rfl : G = G' := by rw [HA] at hG; cases hG; rfl
  refine X2n ?_; clear hK K; go_upto_region 4 with fail; refine X2o ?_; replace HL := HL.adopt (fun k => k = G ∨ k = g) [(G, 340, rowS σ ++ sp), (g, 318, [vs.v, vf.v, .int .i64 (σ.room : Int), .int .i64 (σ.used : Int)])] (by intro y hy; simp at hy; rcases hy with rfl | rfl; exact ⟨.inl rfl, hb⟩; exact ⟨.inr rfl, hbg⟩) (by simp; exact hap.1); simp only [qn] at HL; go_upto_region 6 with fail; refine X13 ?_; refine X2w ?_; refine X2x ?_; refine X5 ?_; refine xaa rfl _ (xa7 _ _ rfl _ _ 0 rfl rfl rfl (by omega)) ?_; refine X15 ?_; refine X2w ?_; refine X2y ?_; refine X2u ?_; clear HL; intro w HL; go_upto_region 7 with fail; refine X13 ?_; refine X30 ?_; refine X2a ?_; go_upto_region 9 with fail; refine X11 ?_; refine xaa rfl _ (xcu _ rfl Slo.z.cells.toArray (by kernel_rfl)) ?_; refine X15 ?_
  refine xf2 ag340 rfl _ _ rfl HL 0 G _ 340 _ _ _ rfl rfl rfl (Slo.len _) hfit2 (Slo.one _) HGO.out ?_; refine X2u ?_; clear HL; intro w HL
  have hvg : ∀ k, vf.v.ownBlock = some k → Old w0 k ∧ ¬ (k = G ∨ k = g) := fun k hk => ⟨HH.out.1.lt k (HH.out.1.own k (.inr (.inr hk))), by
    rintro (e | e)
    · exact hap.2 (e ▸ hk)
    · exact xph HH.out.1 hk e⟩
  go_upto_region 10 with fail; refine X31 ?_; refine X32 ?_; refine X33 ?_; refine X14 ?_; refine xcm sl71 el3 rfl _ rfl HL _ rfl rfl ?_; clear HL; intro g35 w HL; (try simp only [Act.eval, qa, qb, qc, qd, qe] at HL); refine X5 ?_; refine xr6 sl71 el3 rfl _ _ rfl _ 3 _ HL vf _ _ rfl HH.out.1.free hvg 1 1 rfl rfl (by simp [Value.oneCell']) (by omega) (by omega) (by omega) ?_; clear HL; intro vf' w hrow hfr hvf' HL; obtain ⟨w1, rfl⟩ := eW w; refine Xt ?_; refine X12 ?_; refine X32 ?_; refine X5 ?_; refine xa1 sc71 rfl _ _ rfl HL 1 _ _ _ _ _ _ rfl rfl rfl rfl (by simp) (rfl) ?_; refine X35 ?_; clear HL; intro w HL; go_upto_region 11 with fail; refine X13 ?_; refine X23 ?_; refine X36 ?_; refine X5 ?_; refine xaa rfl _ (xa7 _ _ rfl _ _ _ rfl rfl HU.out (by omega)) ?_; refine X15 ?_; refine X23 ?_; refine X37 ?_; refine X35 ?_; clear HL; intro w HL
  go_upto_region 12 with fail; refine X2z ?_; go_wp2_with fail; go_ret2; have hG1 := HL.blk (.head _); have hg1 := HL.blk (.tail _ (.head _))
  have hS0 : ∀ k, (k = G ∨ k = g) ∨ vf.v.ownBlock = some k → SbS g vs vf k := by
    rintro k ((rfl | rfl) | e)
    · exact hS
    · exact .inl rfl
    · exact .inr (.inr e)
  have hfin : Fr (SbS g vs vf) w0 w := by
    refine ⟨HL.fr.os.trans hfr.os, HL.fr.tape.trans hfr.tape, HL.fr.output.trans hfr.output, Nat.le_trans hfr.size HL.fr.size, fun k hk hn => ?_⟩
    have h1 : w1.heap[k]? = w0.heap[k]? := hfr.block k hk (by
      rintro (e | e)
      · exact e ⟨hk, fun e => hn (hS0 k (.inl e))⟩
      · exact hn (hS0 k (.inr e)))
    rw [← h1]; refine HL.heap ⟨Nat.lt_of_lt_of_le hk hfr.size, ?_⟩; intro x hx e; apply hn; apply hS0; simp at hx; rcases hx with rfl | rfl
    · exact .inl (.inl e.symm)
    · exact .inl (.inr e.symm)
  have hvo : ∀ k, vs.v.ownBlock = some k → k = G := by
    intro k hk; rw [HE.out] at hk; simp [Sv.v, Value.ownBlock] at hk; exact hk.symm
  have hag := HH.out.1.again (σ' := σ.letGo i) (vs' := vs) (vf' := vf') hfin (by
    rintro k (rfl | e | e)
    · exact .inl (.inl rfl)
    · exact .inl (.inr (.inl e))
    · rcases (hvf' k e).2 with h1 | h1
      · exact .inl (.inr (.inr h1))
      · exact .inr h1) (by
    rintro k (rfl | e | e)
    · exact hg1.lt
    · rw [hvo k e]; exact hG1.lt
    · exact Nat.lt_of_lt_of_le (hvf' k e).1.1 HL.fr.size) (by simpa [Sb.letGo] using hg1) (by
      have hn : (σ.letGo i).slots.length = σ.slots.length := by simp [Sb.letGo]
      rw [hn]; refine xfb HE.out hG1 (by rw [xeh, hn]) hcap hmx ?_; have h1 := hlen'.out; rw [List.length_append, xeh] at h1 ⊢
      rw [hn]; exact h1) (by
      have hn : (σ.letGo i).free.length = σ.free.length + 1 := by simp [Sb.letGo]
      have hr : rowF (σ.letGo i) = rowF σ ++ [.int .i64 ((i + 1 : Nat) : Int)] := by simp [Sb.letGo, rowF]
      rw [hn, hr]
      exact xba hrow (fun k hk => HL.heap (hvf' k hk).1)) (Sb.letGo_ok HH.out.1.ok i hi hu) (by
      intro e he; rcases List.mem_or_eq_of_mem_set he with he | rfl
      · exact .inl he
      · exact .inr ⟨⟨rfl, Nat.le_refl _, Nat.zero_le _, Rd.nil _ _, fun ad e => by cases e⟩, fun ad e => by cases e⟩)
  exact ⟨_, vf', rfl, hag.1, hag.2, hfin⟩
end
theorem fold_set (l : List Value) : ∀ (cs : List Value) (off k : Nat), off + k + l.length ≤ cs.length → (l.zipIdx k).foldl (fun (cs : Array Value) (x : Value × Nat) => cs.setIfInBounds (off + x.2) x.1) cs.toArray = (splice cs (off + k) l).toArray := by
  induction l with
  | nil => intro cs off k h; simp [xe5]
  | cons v l ih =>
    intro cs off k h; simp only [qr] at h; rw [List.zipIdx_cons, List.foldl_cons]; simp only [qf]; rw [ih (cs.set (off + k) v) off (k + 1) (by simp; omega), ← xfl cs (off + k) v l (by omega)]; rfl
theorem xaj {place : Nat → Option (Nat × Nat)} {cs : List Value} {i off size : Nat} {v : Value} {vs : List Value} {rest : List (Nat × Value)} {r : Option (Array Value)} (hp : place i = some (off, size)) (hv : v.cells = vs.toArray) (hs : vs.length = size) (hf : off + size ≤ cs.length)
    (h : Instr.fill place (splice cs off vs).toArray rest = r) : Instr.fill place cs.toArray ((i, v) :: rest) = r := by
  rw [← h]; have e := fold_set vs cs off 0 (by omega); simp only [Instr.fill, hp, hv]; rw [if_neg (by simp; omega)]; congr 1; rw [← Array.foldl_toList, Array.toList_zipIdx]; exact e
structure BS (P : Program) (T : Nat) (zs : List Value) (pl : List (Nat × Nat)) : Prop where
  h : ∀ parts, P.built T parts = Instr.fill (fun x => pl.toArray[x]?) zs.toArray parts
theorem BS.of {P : Program} {T : Nat} {fs : Array Field} {zs : List Value} {pl : List (Nat × Nat)} (hu : P.underlying T = some (.struct fs)) (hz : (P.info? T).map (·.zero) = some (some (.agg zs.toArray)))
    (hp : fs.toList.mapM (fun f => (P.info? f.type).map fun i => (f.offset, i.size)) = some pl) : BS P T zs pl := by
  constructor; intro parts
  cases hq : P.info? T with
  | none => simp [hq] at hz
  | some it =>
    have h1 : it.zero = some (.agg zs.toArray) := by simpa [hq] using hz
    simp [Program.built, hq, hu, hp, h1, Value.cells]
section
variable {P : Program} {T : TypeId} {w : World} {o : Oper} {a : Act} {zs : List Value} {pl : List (Nat × Nat)}
theorem xbq (B : BS P T zs pl) (parts : List (Nat × Operand)) (ho : o.op = .build T parts.toArray) (cs : List Value) (h : Instr.fill (fun x => pl.toArray[x]?) zs.toArray (parts.map fun (i, x) => (i, a.eval x)) = some cs.toArray) :
    (execOp a.eval o).run P w = .ok (.value (.agg cs.toArray)) w :=
  xcu parts.toArray ho cs.toArray (by rw [B.h]; simpa using h)
theorem exec_bs0 (B : BS P T zs pl) (ho : o.op = .build T #[]) : (execOp a.eval o).run P w = .ok (.value (.agg zs.toArray)) w :=
  xbq B [] ho zs rfl
end
theorem xbj {α : Type} (L : List α) (k : Nat) (v : α) (h : k < L.length) : splice L k [v] = L.set k v := by
  have := xfl L k v [] h; rw [xe5] at this; exact this.symm
theorem xd9 (v : Value) (h : v.oneCell' = true) : v.cells = [v].toArray := by cases v <;> first | rfl | (simp [Value.oneCell'] at h)
theorem bs61 : BS Tryz.prog 61 Par.z.cells [(0, 32), (32, 1)] := BS.of Tryz.underlying61 (by kernel_rfl) (by kernel_rfl)
theorem xqv (x0 : D32) (x1 : Sv) : Instr.fill (fun x => [(0, 32), (32, 1)].toArray[x]?) Par.z.cells.toArray [(0, .agg x0.c.toArray), (1, x1.v)] = some ((⟨x0, x1⟩ : Par)).cells.toArray := by
  rw [show Par.z = (⟨D32.z, Sv.nil⟩ : Par) from rfl]; refine xaj (vs := x0.c) rfl (rfl) (D32.cl _) (by rw [Par.len]; decide) ?_; rw [Par.s_key]; refine xaj (vs := [x1.v]) rfl (rfl) (rfl) (by rw [Par.len]; decide) ?_; rw [xbj _ _ _ (by rw [Par.len]; decide)]; rw [show (⟨x0, Sv.nil⟩ : Par).cells.set 32 (x1.v) = (⟨x0, x1⟩ : Par).cells from Par.s_val (⟨x0, Sv.nil⟩ : Par) (x1)]; rfl
theorem bs163 : BS Tryz.prog 163 ([Value.pointer none]) [(0, 1)] := BS.of Tryz.underlying163 (by kernel_rfl) (by kernel_rfl)
theorem bd163_23 (x0 : Value) (h0 : x0.oneCell' = true) : Instr.fill (fun x => [(0, 1)].toArray[x]?) ([Value.pointer none]).toArray [(0, x0)] = some (([x0])).toArray := by
  refine xaj (vs := [x0]) rfl (xd9 _ h0) (rfl) (by simp only [qp, qr, qs, D32.cl, Brv.len, Cla.len, Clm.len, Nd.len, Nod.len, Par.len, Plc.len, Prv.len, Sai.len, Say.len, Slo.len, Spv.len, Str.len]; decide) ?_
  have e0 : splice ([Value.pointer none]) 0 [x0] = ([x0]) := by
    refine X38 ?_; intro h; have hl : (([] : List Value) : List Value).length = 0 := by first | rfl | (simp only [qp, qr, qs, D32.cl, Brv.len, Cla.len, Clm.len, Nd.len, Nod.len, Par.len, Plc.len, Prv.len, Sai.len, Say.len, Slo.len, Spv.len, Str.len])
    rw [hl] at h; simpa only [List.append_assoc, List.nil_append, List.append_nil, List.cons_append] using h
  rw [e0]; rfl
theorem bs166 : BS Tryz.prog 166 ([Value.pointer none] ++ ([Value.pointer none] ++ ([Value.int .i64 0]))) [(0, 1), (1, 1), (2, 1)] := BS.of Tryz.underlying166 (by kernel_rfl) (by kernel_rfl)
theorem bd166_24 (x0 : Value) (x1 : Value) (h1 : x1.oneCell' = true) : Instr.fill (fun x => [(0, 1), (1, 1), (2, 1)].toArray[x]?) ([Value.pointer none] ++ ([Value.pointer none] ++ ([Value.int .i64 0]))).toArray [(0, .agg [x0].toArray), (1, x1), (2, Value.int .i64 0)] = some (([x0] ++ ([x1] ++ ([Value.int .i64 0])))).toArray := by
  refine xaj (vs := [x0]) rfl (rfl) (rfl) (by simp only [qp, qr, qs, D32.cl, Brv.len, Cla.len, Clm.len, Nd.len, Nod.len, Par.len, Plc.len, Prv.len, Sai.len, Say.len, Slo.len, Spv.len, Str.len]; decide) ?_
  have e0 : splice ([Value.pointer none] ++ ([Value.pointer none] ++ ([Value.int .i64 0]))) 0 [x0] = ([x0] ++ ([Value.pointer none] ++ ([Value.int .i64 0]))) := by
    have h := xbi ([] : List Value) [Value.pointer none] ([Value.pointer none] ++ ([Value.int .i64 0])) [x0] (by first | rfl | (simp only [D32.cl, Brv.len, Cla.len, Clm.len, Nd.len, Nod.len, Par.len, Plc.len, Prv.len, Sai.len, Say.len, Slo.len, Spv.len, Str.len, qr, qs])); have hl : (([] : List Value) : List Value).length = 0 := by first | rfl | (simp only [qp, qr, qs, D32.cl, Brv.len, Cla.len, Clm.len, Nd.len, Nod.len, Par.len, Plc.len, Prv.len, Sai.len, Say.len, Slo.len, Spv.len, Str.len])
    rw [hl] at h; simpa only [List.append_assoc, List.nil_append, List.append_nil, List.cons_append] using h
  rw [e0]; refine xaj (vs := [x1]) rfl (xd9 _ h1) (rfl) (by simp only [qp, qr, qs, D32.cl, Brv.len, Cla.len, Clm.len, Nd.len, Nod.len, Par.len, Plc.len, Prv.len, Sai.len, Say.len, Slo.len, Spv.len, Str.len]; decide) ?_
  have e1 : splice ([x0] ++ ([Value.pointer none] ++ ([Value.int .i64 0]))) 1 [x1] = ([x0] ++ ([x1] ++ ([Value.int .i64 0]))) := by
    have h := xbi ([x0]) [Value.pointer none] ([Value.int .i64 0]) [x1] (by first | rfl | (simp only [D32.cl, Brv.len, Cla.len, Clm.len, Nd.len, Nod.len, Par.len, Plc.len, Prv.len, Sai.len, Say.len, Slo.len, Spv.len, Str.len, qr, qs])); have hl : (([x0]) : List Value).length = 1 := by first | rfl | (simp only [qp, qr, qs, D32.cl, Brv.len, Cla.len, Clm.len, Nd.len, Nod.len, Par.len, Plc.len, Prv.len, Sai.len, Say.len, Slo.len, Spv.len, Str.len])
    rw [hl] at h; simpa only [List.append_assoc, List.nil_append, List.append_nil, List.cons_append] using h
  rw [e1]; refine xaj (vs := [Value.int .i64 0]) rfl (rfl) (rfl) (by simp only [qp, qr, qs, D32.cl, Brv.len, Cla.len, Clm.len, Nd.len, Nod.len, Par.len, Plc.len, Prv.len, Sai.len, Say.len, Slo.len, Spv.len, Str.len]; decide) ?_
  have e2 : splice ([x0] ++ ([x1] ++ ([Value.int .i64 0]))) 2 [Value.int .i64 0] = ([x0] ++ ([x1] ++ ([Value.int .i64 0]))) := by
    have h := xbi ([x0] ++ ([x1])) [Value.int .i64 0] ([] : List Value) [Value.int .i64 0] (by first | rfl | (simp only [D32.cl, Brv.len, Cla.len, Clm.len, Nd.len, Nod.len, Par.len, Plc.len, Prv.len, Sai.len, Say.len, Slo.len, Spv.len, Str.len, qr, qs])); have hl : (([x0] ++ ([x1])) : List Value).length = 2 := by first | rfl | (simp only [qp, qr, qs, D32.cl, Brv.len, Cla.len, Clm.len, Nd.len, Nod.len, Par.len, Plc.len, Prv.len, Sai.len, Say.len, Slo.len, Spv.len, Str.len])
    rw [hl] at h; simpa only [List.append_assoc, List.nil_append, List.append_nil, List.cons_append] using h
  rw [e2]; rfl
theorem bs256 : BS Tryz.prog 256 ([Value.pointer none]) [(0, 1)] := BS.of Tryz.underlying256 (by kernel_rfl) (by kernel_rfl)
theorem bd256_25 (x0 : Value) (h0 : x0.oneCell' = true) : Instr.fill (fun x => [(0, 1)].toArray[x]?) ([Value.pointer none]).toArray [(0, x0)] = some (([x0])).toArray := by
  refine xaj (vs := [x0]) rfl (xd9 _ h0) (rfl) (by simp only [qp, qr, qs, D32.cl, Brv.len, Cla.len, Clm.len, Nd.len, Nod.len, Par.len, Plc.len, Prv.len, Sai.len, Say.len, Slo.len, Spv.len, Str.len]; decide) ?_
  have e0 : splice ([Value.pointer none]) 0 [x0] = ([x0]) := by
    refine X38 ?_; intro h; have hl : (([] : List Value) : List Value).length = 0 := by first | rfl | (simp only [qp, qr, qs, D32.cl, Brv.len, Cla.len, Clm.len, Nd.len, Nod.len, Par.len, Plc.len, Prv.len, Sai.len, Say.len, Slo.len, Spv.len, Str.len])
    rw [hl] at h; simpa only [List.append_assoc, List.nil_append, List.append_nil, List.cons_append] using h
  rw [e0]; rfl
theorem bs230 : BS Tryz.prog 230 Nd.z.cells [(0, 32), (32, 1), (33, 1), (34, 32), (66, 1), (67, 32), (99, 1), (100, 1), (101, 1), (102, 1)] := BS.of Tryz.underlying230 (by kernel_rfl) (by kernel_rfl)
theorem bs228 : BS Tryz.prog 228 (D32.z.c) [(0, 32)] := BS.of Tryz.underlying228 (by kernel_rfl) (by kernel_rfl)
theorem bd228_27 (x0 : D32) : Instr.fill (fun x => [(0, 32)].toArray[x]?) (D32.z.c).toArray [(0, .agg x0.c.toArray)] = some ((x0.c)).toArray := by
  refine xaj (vs := x0.c) rfl (rfl) (D32.cl _) (by simp only [qp, qr, qs, D32.cl, Brv.len, Cla.len, Clm.len, Nd.len, Nod.len, Par.len, Plc.len, Prv.len, Sai.len, Say.len, Slo.len, Spv.len, Str.len]; decide) ?_
  have e0 : splice (D32.z.c) 0 x0.c = (x0.c) := by
    have h := xbi ([] : List Value) D32.z.c ([] : List Value) x0.c (by first | rfl | (simp only [D32.cl, Brv.len, Cla.len, Clm.len, Nd.len, Nod.len, Par.len, Plc.len, Prv.len, Sai.len, Say.len, Slo.len, Spv.len, Str.len, qr, qs])); have hl : (([] : List Value) : List Value).length = 0 := by first | rfl | (simp only [qp, qr, qs, D32.cl, Brv.len, Cla.len, Clm.len, Nd.len, Nod.len, Par.len, Plc.len, Prv.len, Sai.len, Say.len, Slo.len, Spv.len, Str.len])
    rw [hl] at h; simpa only [List.append_assoc, List.nil_append, List.append_nil, List.cons_append] using h
  rw [e0]; rfl
theorem bd230_28 (x0 : D32) (x3 : D32) (x4 : Sv) (x5 : D32) : Instr.fill (fun x => [(0, 32), (32, 1), (33, 1), (34, 32), (66, 1), (67, 32), (99, 1), (100, 1), (101, 1), (102, 1)].toArray[x]?) Nd.z.cells.toArray [(0, .agg x0.c.toArray), (1, Value.int .u8 1), (2, Value.int .i64 (-1)), (3, .agg x3.c.toArray), (4, x4.v), (5, .agg x5.c.toArray), (8, Value.int .i64 1), (9, Value.int .i64 1)] = some ((⟨x0, 1, (-1), x3, x4, x5, 0, 0, 1, 1⟩ : Nd)).cells.toArray := by
  rw [show Nd.z = (⟨D32.z, 0, 0, D32.z, Sv.nil, D32.z, 0, 0, 0, 0⟩ : Nd) from rfl]; refine xaj (vs := x0.c) rfl (rfl) (D32.cl _) (by rw [Nd.len]; decide) ?_; rw [Nd.s_dig]; refine xaj (vs := [Value.int .u8 1]) rfl (rfl) (rfl) (by rw [Nd.len]; decide) ?_; rw [xbj _ _ _ (by rw [Nd.len]; decide)]; rw [show (⟨x0, 0, 0, D32.z, Sv.nil, D32.z, 0, 0, 0, 0⟩ : Nd).cells.set 32 (Value.int .u8 1) = (⟨x0, 1, 0, D32.z, Sv.nil, D32.z, 0, 0, 0, 0⟩ : Nd).cells from Nd.s_kind (⟨x0, 0, 0, D32.z, Sv.nil, D32.z, 0, 0, 0, 0⟩ : Nd) (1)]; refine xaj (vs := [Value.int .i64 (-1)]) rfl (rfl) (rfl) (by rw [Nd.len]; decide) ?_; rw [xbj _ _ _ (by rw [Nd.len]; decide)]
  rw [show (⟨x0, 1, 0, D32.z, Sv.nil, D32.z, 0, 0, 0, 0⟩ : Nd).cells.set 33 (Value.int .i64 (-1)) = (⟨x0, 1, (-1), D32.z, Sv.nil, D32.z, 0, 0, 0, 0⟩ : Nd).cells from Nd.s_depth (⟨x0, 1, 0, D32.z, Sv.nil, D32.z, 0, 0, 0, 0⟩ : Nd) ((-1))]; refine xaj (vs := x3.c) rfl (rfl) (D32.cl _) (by rw [Nd.len]; decide) ?_; rw [Nd.s_key]; refine xaj (vs := [x4.v]) rfl (rfl) (rfl) (by rw [Nd.len]; decide) ?_; rw [xbj _ _ _ (by rw [Nd.len]; decide)]; rw [show (⟨x0, 1, (-1), x3, Sv.nil, D32.z, 0, 0, 0, 0⟩ : Nd).cells.set 66 (x4.v) = (⟨x0, 1, (-1), x3, x4, D32.z, 0, 0, 0, 0⟩ : Nd).cells from Nd.s_vs (⟨x0, 1, (-1), x3, Sv.nil, D32.z, 0, 0, 0, 0⟩ : Nd) (x4)]; refine xaj (vs := x5.c) rfl (rfl) (D32.cl _) (by rw [Nd.len]; decide) ?_; rw [Nd.s_hash]; refine xaj (vs := [Value.int .i64 1]) rfl (rfl) (rfl) (by rw [Nd.len]; decide) ?_; rw [xbj _ _ _ (by rw [Nd.len]; decide)]
  rw [show (⟨x0, 1, (-1), x3, x4, x5, 0, 0, 0, 0⟩ : Nd).cells.set 101 (Value.int .i64 1) = (⟨x0, 1, (-1), x3, x4, x5, 0, 0, 1, 0⟩ : Nd).cells from Nd.s_size (⟨x0, 1, (-1), x3, x4, x5, 0, 0, 0, 0⟩ : Nd) (1)]; refine xaj (vs := [Value.int .i64 1]) rfl (rfl) (rfl) (by rw [Nd.len]; decide) ?_; rw [xbj _ _ _ (by rw [Nd.len]; decide)]; rw [show (⟨x0, 1, (-1), x3, x4, x5, 0, 0, 1, 0⟩ : Nd).cells.set 102 (Value.int .i64 1) = (⟨x0, 1, (-1), x3, x4, x5, 0, 0, 1, 1⟩ : Nd).cells from Nd.s_held (⟨x0, 1, (-1), x3, x4, x5, 0, 0, 1, 0⟩ : Nd) (1)]; rfl
theorem bs353 : BS Tryz.prog 353 ([Value.int .i64 0] ++ ([Value.pointer none])) [(0, 1), (1, 1)] := BS.of Tryz.underlying353 (by kernel_rfl) (by kernel_rfl)
theorem bd353_29 (x0 : Int) (x1 : Value) (h1 : x1.oneCell' = true) : Instr.fill (fun x => [(0, 1), (1, 1)].toArray[x]?) ([Value.int .i64 0] ++ ([Value.pointer none])).toArray [(0, Value.int .i64 x0), (1, x1)] = some (([Value.int .i64 x0] ++ ([x1]))).toArray := by
  refine xaj (vs := [Value.int .i64 x0]) rfl (rfl) (rfl) (by simp only [qp, qr, qs, D32.cl, Brv.len, Cla.len, Clm.len, Nd.len, Nod.len, Par.len, Plc.len, Prv.len, Sai.len, Say.len, Slo.len, Spv.len, Str.len]; decide) ?_
  have e0 : splice ([Value.int .i64 0] ++ ([Value.pointer none])) 0 [Value.int .i64 x0] = ([Value.int .i64 x0] ++ ([Value.pointer none])) := by
    have h := xbi ([] : List Value) [Value.int .i64 0] ([Value.pointer none]) [Value.int .i64 x0] (by first | rfl | (simp only [D32.cl, Brv.len, Cla.len, Clm.len, Nd.len, Nod.len, Par.len, Plc.len, Prv.len, Sai.len, Say.len, Slo.len, Spv.len, Str.len, qr, qs])); have hl : (([] : List Value) : List Value).length = 0 := by first | rfl | (simp only [qp, qr, qs, D32.cl, Brv.len, Cla.len, Clm.len, Nd.len, Nod.len, Par.len, Plc.len, Prv.len, Sai.len, Say.len, Slo.len, Spv.len, Str.len])
    rw [hl] at h; simpa only [List.append_assoc, List.nil_append, List.append_nil, List.cons_append] using h
  rw [e0]; refine xaj (vs := [x1]) rfl (xd9 _ h1) (rfl) (by simp only [qp, qr, qs, D32.cl, Brv.len, Cla.len, Clm.len, Nd.len, Nod.len, Par.len, Plc.len, Prv.len, Sai.len, Say.len, Slo.len, Spv.len, Str.len]; decide) ?_
  have e1 : splice ([Value.int .i64 x0] ++ ([Value.pointer none])) 1 [x1] = ([Value.int .i64 x0] ++ ([x1])) := by
    have h := xbi ([Value.int .i64 x0]) [Value.pointer none] ([] : List Value) [x1] (by first | rfl | (simp only [D32.cl, Brv.len, Cla.len, Clm.len, Nd.len, Nod.len, Par.len, Plc.len, Prv.len, Sai.len, Say.len, Slo.len, Spv.len, Str.len, qr, qs])); have hl : (([Value.int .i64 x0]) : List Value).length = 1 := by first | rfl | (simp only [qp, qr, qs, D32.cl, Brv.len, Cla.len, Clm.len, Nd.len, Nod.len, Par.len, Plc.len, Prv.len, Sai.len, Say.len, Slo.len, Spv.len, Str.len])
    rw [hl] at h; simpa only [List.append_assoc, List.nil_append, List.append_nil, List.cons_append] using h
  rw [e1]; rfl
theorem bd230_30 (x0 : D32) (x2 : Int) (x3 : D32) (x6 : Int) (x7 : Int) (x8 : Int) : Instr.fill (fun x => [(0, 32), (32, 1), (33, 1), (34, 32), (66, 1), (67, 32), (99, 1), (100, 1), (101, 1), (102, 1)].toArray[x]?) Nd.z.cells.toArray [(0, .agg x0.c.toArray), (1, Value.int .u8 2), (2, Value.int .i64 x2), (3, .agg x3.c.toArray), (6, Value.int .i64 x6), (7, Value.int .i64 x7), (8, Value.int .i64 x8), (9, Value.int .i64 1)] = some ((⟨x0, 2, x2, x3, Sv.nil, D32.z, x6, x7, x8, 1⟩ : Nd)).cells.toArray := by
  rw [show Nd.z = (⟨D32.z, 0, 0, D32.z, Sv.nil, D32.z, 0, 0, 0, 0⟩ : Nd) from rfl]; refine xaj (vs := x0.c) rfl (rfl) (D32.cl _) (by rw [Nd.len]; decide) ?_; rw [Nd.s_dig]; refine xaj (vs := [Value.int .u8 2]) rfl (rfl) (rfl) (by rw [Nd.len]; decide) ?_; rw [xbj _ _ _ (by rw [Nd.len]; decide)]; rw [show (⟨x0, 0, 0, D32.z, Sv.nil, D32.z, 0, 0, 0, 0⟩ : Nd).cells.set 32 (Value.int .u8 2) = (⟨x0, 2, 0, D32.z, Sv.nil, D32.z, 0, 0, 0, 0⟩ : Nd).cells from Nd.s_kind (⟨x0, 0, 0, D32.z, Sv.nil, D32.z, 0, 0, 0, 0⟩ : Nd) (2)]; refine xaj (vs := [Value.int .i64 x2]) rfl (rfl) (rfl) (by rw [Nd.len]; decide) ?_; rw [xbj _ _ _ (by rw [Nd.len]; decide)]
  rw [show (⟨x0, 2, 0, D32.z, Sv.nil, D32.z, 0, 0, 0, 0⟩ : Nd).cells.set 33 (Value.int .i64 x2) = (⟨x0, 2, x2, D32.z, Sv.nil, D32.z, 0, 0, 0, 0⟩ : Nd).cells from Nd.s_depth (⟨x0, 2, 0, D32.z, Sv.nil, D32.z, 0, 0, 0, 0⟩ : Nd) (x2)]; refine xaj (vs := x3.c) rfl (rfl) (D32.cl _) (by rw [Nd.len]; decide) ?_; rw [Nd.s_key]; refine xaj (vs := [Value.int .i64 x6]) rfl (rfl) (rfl) (by rw [Nd.len]; decide) ?_; rw [xbj _ _ _ (by rw [Nd.len]; decide)]; rw [show (⟨x0, 2, x2, x3, Sv.nil, D32.z, 0, 0, 0, 0⟩ : Nd).cells.set 99 (Value.int .i64 x6) = (⟨x0, 2, x2, x3, Sv.nil, D32.z, x6, 0, 0, 0⟩ : Nd).cells from Nd.s_left (⟨x0, 2, x2, x3, Sv.nil, D32.z, 0, 0, 0, 0⟩ : Nd) (x6)]; refine xaj (vs := [Value.int .i64 x7]) rfl (rfl) (rfl) (by rw [Nd.len]; decide) ?_; rw [xbj _ _ _ (by rw [Nd.len]; decide)]
  rw [show (⟨x0, 2, x2, x3, Sv.nil, D32.z, x6, 0, 0, 0⟩ : Nd).cells.set 100 (Value.int .i64 x7) = (⟨x0, 2, x2, x3, Sv.nil, D32.z, x6, x7, 0, 0⟩ : Nd).cells from Nd.s_right (⟨x0, 2, x2, x3, Sv.nil, D32.z, x6, 0, 0, 0⟩ : Nd) (x7)]; refine xaj (vs := [Value.int .i64 x8]) rfl (rfl) (rfl) (by rw [Nd.len]; decide) ?_; rw [xbj _ _ _ (by rw [Nd.len]; decide)]; rw [show (⟨x0, 2, x2, x3, Sv.nil, D32.z, x6, x7, 0, 0⟩ : Nd).cells.set 101 (Value.int .i64 x8) = (⟨x0, 2, x2, x3, Sv.nil, D32.z, x6, x7, x8, 0⟩ : Nd).cells from Nd.s_size (⟨x0, 2, x2, x3, Sv.nil, D32.z, x6, x7, 0, 0⟩ : Nd) (x8)]; refine xaj (vs := [Value.int .i64 1]) rfl (rfl) (rfl) (by rw [Nd.len]; decide) ?_; rw [xbj _ _ _ (by rw [Nd.len]; decide)]
  rw [show (⟨x0, 2, x2, x3, Sv.nil, D32.z, x6, x7, x8, 0⟩ : Nd).cells.set 102 (Value.int .i64 1) = (⟨x0, 2, x2, x3, Sv.nil, D32.z, x6, x7, x8, 1⟩ : Nd).cells from Nd.s_held (⟨x0, 2, x2, x3, Sv.nil, D32.z, x6, x7, x8, 0⟩ : Nd) (1)]; rfl
theorem bs318 : BS Tryz.prog 318 ([Value.slice none 0 0] ++ ([Value.slice none 0 0] ++ ([Value.int .i64 0] ++ ([Value.int .i64 0])))) [(0, 1), (1, 1), (2, 1), (3, 1)] := BS.of Tryz.underlying318 (by kernel_rfl) (by kernel_rfl)
theorem bd318_32 (x2 : Int) : Instr.fill (fun x => [(0, 1), (1, 1), (2, 1), (3, 1)].toArray[x]?) ([Value.slice none 0 0] ++ ([Value.slice none 0 0] ++ ([Value.int .i64 0] ++ ([Value.int .i64 0])))).toArray [(2, Value.int .i64 x2)] = some (([Value.slice none 0 0] ++ ([Value.slice none 0 0] ++ ([Value.int .i64 x2] ++ ([Value.int .i64 0]))))).toArray := by
  refine xaj (vs := [Value.int .i64 x2]) rfl (rfl) (rfl) (by simp only [qp, qr, qs, D32.cl, Brv.len, Cla.len, Clm.len, Nd.len, Nod.len, Par.len, Plc.len, Prv.len, Sai.len, Say.len, Slo.len, Spv.len, Str.len]; decide) ?_
  have e2 : splice ([Value.slice none 0 0] ++ ([Value.slice none 0 0] ++ ([Value.int .i64 0] ++ ([Value.int .i64 0])))) 2 [Value.int .i64 x2] = ([Value.slice none 0 0] ++ ([Value.slice none 0 0] ++ ([Value.int .i64 x2] ++ ([Value.int .i64 0])))) := by
    have h := xbi ([Value.slice none 0 0] ++ ([Value.slice none 0 0])) [Value.int .i64 0] ([Value.int .i64 0]) [Value.int .i64 x2] (by first | rfl | (simp only [D32.cl, Brv.len, Cla.len, Clm.len, Nd.len, Nod.len, Par.len, Plc.len, Prv.len, Sai.len, Say.len, Slo.len, Spv.len, Str.len, qr, qs])); have hl : (([Value.slice none 0 0] ++ ([Value.slice none 0 0])) : List Value).length = 2 := by first | rfl | (simp only [qp, qr, qs, D32.cl, Brv.len, Cla.len, Clm.len, Nd.len, Nod.len, Par.len, Plc.len, Prv.len, Sai.len, Say.len, Slo.len, Spv.len, Str.len])
    rw [hl] at h; simpa only [List.append_assoc, List.nil_append, List.append_nil, List.cons_append] using h
  rw [e2]; rfl
theorem bs340 : BS Tryz.prog 340 Slo.z.cells [(0, 103), (103, 1)] := BS.of Tryz.underlying340 (by kernel_rfl) (by kernel_rfl)
theorem bd340_33 (x : Nd) : Instr.fill (fun x => [(0, 103), (103, 1)].toArray[x]?) Slo.z.cells.toArray [(0, .agg x.cells.toArray), (1, .int .i64 1)] = some (x.slo 1).cells.toArray := by
  refine xaj (vs := x.cells) rfl rfl (Nd.len _) (by rw [Slo.len]; decide) ?_; have h := xbi [] Nd.z.cells [.int .i64 0] x.cells (by rw [Nd.len, Nd.len]); simp only [qn, qs] at h; have e : Slo.z.cells = Nd.z.cells ++ [.int .i64 0] := Nd.slo_cells Nd.z 0; rw [e, h]; refine xaj (vs := [.int .i64 1]) rfl rfl rfl (by simp [Nd.len]) ?_; have h2 := xbi x.cells [.int .i64 0] [] [.int .i64 1] rfl; rw [Nd.len] at h2; simp only [qu] at h2; rw [h2, ← Nd.slo_cells]; rfl
theorem bs259 : BS Tryz.prog 259 ([Value.pointer none] ++ ([Value.map none])) [(0, 1), (1, 1)] := BS.of Tryz.underlying259 (by kernel_rfl) (by kernel_rfl)
theorem bd259_35 (x0 : Value) (h0 : x0.oneCell' = true) (x1 : Value) (h1 : x1.oneCell' = true) : Instr.fill (fun x => [(0, 1), (1, 1)].toArray[x]?) ([Value.pointer none] ++ ([Value.map none])).toArray [(0, x0), (1, x1)] = some (([x0] ++ ([x1]))).toArray := by
  refine xaj (vs := [x0]) rfl (xd9 _ h0) (rfl) (by simp only [qp, qr, qs, D32.cl, Brv.len, Cla.len, Clm.len, Nd.len, Nod.len, Par.len, Plc.len, Prv.len, Sai.len, Say.len, Slo.len, Spv.len, Str.len]; decide) ?_
  have e0 : splice ([Value.pointer none] ++ ([Value.map none])) 0 [x0] = ([x0] ++ ([Value.map none])) := by
    have h := xbi ([] : List Value) [Value.pointer none] ([Value.map none]) [x0] (by first | rfl | (simp only [D32.cl, Brv.len, Cla.len, Clm.len, Nd.len, Nod.len, Par.len, Plc.len, Prv.len, Sai.len, Say.len, Slo.len, Spv.len, Str.len, qr, qs])); have hl : (([] : List Value) : List Value).length = 0 := by first | rfl | (simp only [qp, qr, qs, D32.cl, Brv.len, Cla.len, Clm.len, Nd.len, Nod.len, Par.len, Plc.len, Prv.len, Sai.len, Say.len, Slo.len, Spv.len, Str.len])
    rw [hl] at h; simpa only [List.append_assoc, List.nil_append, List.append_nil, List.cons_append] using h
  rw [e0]; refine xaj (vs := [x1]) rfl (xd9 _ h1) (rfl) (by simp only [qp, qr, qs, D32.cl, Brv.len, Cla.len, Clm.len, Nd.len, Nod.len, Par.len, Plc.len, Prv.len, Sai.len, Say.len, Slo.len, Spv.len, Str.len]; decide) ?_
  have e1 : splice ([x0] ++ ([Value.map none])) 1 [x1] = ([x0] ++ ([x1])) := by
    have h := xbi ([x0]) [Value.map none] ([] : List Value) [x1] (by first | rfl | (simp only [D32.cl, Brv.len, Cla.len, Clm.len, Nd.len, Nod.len, Par.len, Plc.len, Prv.len, Sai.len, Say.len, Slo.len, Spv.len, Str.len, qr, qs])); have hl : (([x0]) : List Value).length = 1 := by first | rfl | (simp only [qp, qr, qs, D32.cl, Brv.len, Cla.len, Clm.len, Nd.len, Nod.len, Par.len, Plc.len, Prv.len, Sai.len, Say.len, Slo.len, Spv.len, Str.len])
    rw [hl] at h; simpa only [List.append_assoc, List.nil_append, List.append_nil, List.cons_append] using h
  rw [e1]; rfl
section
variable {D : Nat → Prop} {w w' : World} {g : Nat} {σ σ' : Sb} {vs vf vs' vf' : Sv}
def Sb.takeF (σ : Sb) (i : Nat) (e : En) : Sb := ⟨σ.slots.set i e, σ.free.dropLast, σ.room, σ.used + 1⟩
def Sb.takeN (σ : Sb) (e : En) : Sb := ⟨σ.slots ++ [e], σ.free, σ.room, σ.used + 1⟩
theorem Sb.takeF_ok (h : σ.Ok) (i : Nat) (e : En) (hf : 0 < σ.free.length) : (σ.takeF i e).Ok :=
  ⟨h.r1, h.r2, by have := h.fit; simp [Sb.takeF]; omega, by simpa [Sb.takeF] using h.few, fun n hn => by
    have h1 := h.fr n (List.dropLast_subset _ hn)
    simpa [Sb.takeF] using h1⟩
theorem Sb.takeN_ok (h : σ.Ok) (e : En) (hf : σ.free = []) (hu : σ.used < σ.room) : (σ.takeN e).Ok :=
  ⟨h.r1, h.r2, by have := h.fit; simp [Sb.takeN, hf] at this ⊢; omega, by have := h.fit; simp [hf] at this; simp [Sb.takeN]; omega, fun n hn => by rw [show (σ.takeN e).free = σ.free from rfl, hf] at hn; simp at hn⟩
theorem row_take (i : Nat) (hi : i < σ.slots.length) (e : En) (sp : List Value) : splice (rowS σ ++ sp) (i * 104) e.cells = rowS (σ.takeF i e) ++ sp := by
  unfold rowS Sb.takeF; exact xd8 En.len _ sp i _ hi
theorem sbs_free (h : SbP D w g σ vs vf) (hf : 0 < σ.free.length) : ∃ F sp, vf = ⟨some ⟨F, 0, none⟩, σ.free.length, vf.c⟩ ∧ vf.v.ownBlock = some F ∧ Blk w F 3 (rowF σ ++ sp) ∧ σ.free.length ≤ vf.c ∧ vf.c ≤ maxLen ∧ (rowF σ ++ sp).length = vf.c * 1 := by
  exact xfo h.free hf
theorem xmd (h : SbP D w g σ vs vf) (x : Nd) (val : List UInt8) (fl : List Nat) (i : Nat) (hfree : σ.free = fl ++ [i + 1]) (hroom : σ.used < σ.room) (hx : ValOk D w g vs vf x.vs val) :
    Calls Tryz.prog 208 #[.pointer (some ⟨g, 0, none⟩), .agg x.cells.toArray] w fun e w' => ∃ D' vf', e = .returned (.tuple #[.int .i64 ((i + 1 : Nat) : Int), .int .i64 0]) ∧ SbP D' w' g (σ.takeF i ⟨x, 1, val⟩) vs vf' ∧ Stp D w D' w' ∧ Fr (SbS g vs vf) w w' := by
  have hfn : σ.free.length = fl.length + 1 := by rw [hfree]; simp
  have hi : i < σ.slots.length := by
    have := h.ok.fr (i + 1) (by rw [hfree]; simp); omega
  obtain ⟨G, sp, he, hD, hS, hb, hcap, hmx, hlen⟩ := h.slotC i hi; obtain ⟨F, sf, hef, hFo, hbF, hcapF, hmxF, hlenF⟩ := sbs_free h (by omega); have hap := h.apart G _ hb; have hFG : F ≠ G := fun e => hap.2 (e ▸ hFo)
  have hFg : F ≠ g := xph h hFo; have hrow := hZ (row_take i hi ⟨x, 1, val⟩ sp); have hfit : i * 104 + 104 ≤ (rowS σ ++ sp).length := by rw [hlen]; omega
  have hfl : Hid ((rowF σ ++ sf)[fl.length]? = some (.int .i64 ((i + 1 : Nat) : Int))) := by
    show _ = _; unfold rowF; rw [hfree]; simp
  have hbg := h.blk; have hub := h.ok.fit; have hfew := h.ok.few; have hr2 := h.ok.r2; have k1 : ((σ.used : Int) == (σ.room : Int)) = false := by simp; omega
  have k2 : decide ((0 : Int) < (σ.free.length : Int)) = true := by simp; omega
  have HU : Hid ((σ.used : Int) + 1 = ((σ.used + 1 : Nat) : Int)) := hZ (by omega); have HF1 : Hid ((σ.free.length : Int) - 1 = (fl.length : Int)) := hZ (by omega); have HI1 : Hid (((i + 1 : Nat) : Int) - 1 = (i : Int)) := hZ (by omega); have hU2 : σ.used < 65536 := by omega
  have hF2 : fl.length + 1 ≤ 65536 := by omega
  have hi2 : i < 65536 := by omega
  have hflt : fl.length < σ.free.length := by omega
  have hfcap : fl.length ≤ vf.c := by omega
  have hHE := hZ (And.intro he (And.intro hef (And.intro hfree (And.intro hlen (And.intro hlenF hfn))))); have HH := hZ h; rw [he, hef] at hbg; clear he hef hfree hlen hlenF hub hfew hr2 h hfn; generalize hm : σ.free.length = m at *; have HM := hZ hm; clear hm; have HL := Loc.start w; obtain ⟨w0, rfl⟩ := eW w; go_enter Tryz.func208, Tryz.ntmps208; go_upto_region 0 with fail; refine X39 ?_; clear HL; intro g3 w HL; refine X1g ?_; go_upto_region 1 with fail; refine X1z ?_; intro K hK; (with_reducible refine (xfa (HH.out.below HL.below)).mono ?_); rintro e w ⟨rfl, rfl⟩; refine X22 ?_; clear hK K
  replace HL := HL.adopt (fun k => k = G ∨ k = g ∨ k = F) [(G, 340, rowS σ ++ sp), (g, 318, [(⟨some ⟨G, 0, none⟩, σ.slots.length, vs.c⟩ : Sv).v, (⟨some ⟨F, 0, none⟩, m, vf.c⟩ : Sv).v, .int .i64 (σ.room : Int), .int .i64 (σ.used : Int)]), (F, 3, rowF σ ++ sf)] (by intro y hy; simp at hy; rcases hy with rfl | rfl | rfl; exact ⟨.inl rfl, hb⟩; exact ⟨.inr (.inl rfl), hbg⟩; exact ⟨.inr (.inr rfl), hbF⟩) (by simp; exact ⟨⟨hap.1, Ne.symm hFG⟩, Ne.symm hFg⟩); simp only [qm, qn] at HL; go_upto_region 3 with fail; refine rB (Loc.P HL) [] [] [0, 1, 2, 3, 4, 5, 6, 7, 8] 0 ?_; refine X3e ?_; intro HL; refine xab rfl rfl HL (fun W hW => xaf xma _ rfl _ rfl) ?_; refine X5 ?_; refine X3f ?_; refine X3h ?_; refine xab rfl rfl HL (fun W hW => xaf xi5 _ rfl _ rfl) ?_; refine X5 ?_; refine X3f ?_; refine X3k ?_; go_upto_region 5 with fail; refine X13 ?_; refine X23 ?_; refine X5 ?_
  refine xaa rfl _ (xah sc3 HL _ rfl _ _ rfl _ _ _ (.tail _ (.tail _ (.head _))) (rfl)) ?_; refine X5 ?_; refine X3l ?_; refine X23 ?_; refine X5 ?_; refine xa1 sc3 rfl _ _ rfl HL 2 _ _ _ _ _ _ rfl rfl rfl rfl (by simp) (rfl) ?_; refine X35 ?_; clear HL; intro w HL; go_upto_region 6 with fail; refine X13 ?_; refine X32 ?_; refine X5 ?_; refine X3m ?_; refine X5 ?_; refine X3n ?_; refine X19 ?_; go_upto_region 7 with fail; refine X2o ?_; go_upto_region 8 with fail; refine X13 ?_; refine X32 ?_; refine X5 ?_; refine X3m ?_; refine X3o ?_; refine X5 ?_; refine xaa rfl _ (xbc sl71 _ _ rfl F _ _ fl.length _ rfl rfl hflt) ?_; refine X5 ?_; refine xaa rfl _ (xah sc3 HL _ rfl _ _ rfl _ _ _ (.tail _ (.tail _ (.tail _ (.head _)))) (by rw [Nat.mul_one]; exact hfl.out)) ?_; refine X19 ?_; go_upto_region 9 with fail; refine X31 ?_; refine X32 ?_
  refine X5 ?_; refine X3m ?_; refine X3o ?_; refine X5 ?_; refine xaa rfl _ (xaw sl71 _ _ rfl (some ⟨F, 0, none⟩) m vf.c fl.length _ rfl rfl hfcap) ?_; refine X15 ?_; refine X32 ?_; refine X5 ?_; refine xa1 sc71 rfl _ _ rfl HL 2 _ _ _ _ _ _ rfl rfl rfl rfl (by simp) (rfl) ?_; refine X35 ?_; clear HL; intro w HL; go_upto_region 10 with fail; refine rB (Loc.P HL) [9] [9] [0, 1, 2, 3, 4, 5, 6, 7, 8, 9] 0 ?_; refine X3e ?_; intro HL; refine xab rfl rfl HL (fun W hW => xaf xe9 _ rfl _ rfl) ?_; refine X5 ?_; refine xab rfl rfl HL (fun W hW => xah sc316 hW _ rfl _ _ rfl _ _ _ (.tail _ (.tail _ (.head _))) (rfl)) ?_; refine X3g ?_; refine xab rfl rfl HL (fun W hW => xa7 _ _ rfl _ _ _ rfl rfl HI1.out (by omega)) ?_; refine X5 ?_; refine X3p ?_; refine X3q ?_; refine X5 ?_
  refine xab rfl rfl HL (fun W hW => xbc xnt _ _ rfl G _ _ i _ rfl rfl hi) ?_; refine Xf ?_; intro K hK; refine xbs ag340.i _ _ rfl G (i * 104) 340 _ _ rfl rfl (HL.blk (.tail _ (.head _))) (Slo.len _) hfit (Slo.one _) ?_; intro w' hb' hg' _; refine hK _ _ (fun h => by cases h) ?_; clear hK K; rw [show splice (rowS σ ++ sp) (i * 104) (x.slo 1).cells = rowS (σ.takeF i ⟨x, 1, val⟩) ++ sp from hrow.out] at hb'; replace HL := HL.putAt (i := 1) rfl hb' hg'; simp only [qg, qh] at HL; refine X9 ?_; go_upto_region 11 with fail; refine X3r ?_; go_wp2_with fail; go_ret2; obtain ⟨he, hef, hfree, hlen, hlenF, hfn⟩ := hHE.out
  have hfin : Fr (SbS g vs vf) w0 w' := by
    refine ⟨HL.fr.os, HL.fr.tape, HL.fr.output, HL.fr.size, fun k hk hn => HL.heap ⟨hk, ?_⟩⟩; rintro (rfl | rfl | rfl)
    · exact hn hS
    · exact hn (.inl rfl)
    · exact hn (.inr (.inr hFo))
  have hG1 := HL.blk (.tail _ (.head _)); have hg1 := HL.blk (.tail _ (.tail _ (.head _))); have hF1 := HL.blk (.tail _ (.tail _ (.tail _ (.head _)))); have hn : (σ.takeF i ⟨x, 1, val⟩).slots.length = σ.slots.length := by simp [Sb.takeF]
  have hfl2 : (σ.takeF i ⟨x, 1, val⟩).free = fl := by simp [Sb.takeF, hfree]
  have hag := HH.out.again (σ' := σ.takeF i ⟨x, 1, val⟩) (vs' := vs) (vf' := ⟨some ⟨F, 0, none⟩, fl.length, vf.c⟩) hfin (by
    rintro k (rfl | e | e)
    · exact .inl (.inl rfl)
    · exact .inl (.inr (.inl e))
    · simp [Sv.v, Value.ownBlock] at e
      exact .inl (.inr (.inr (e ▸ hFo)))) (by
    rintro k (rfl | e | e)
    · exact hg1.lt
    · rw [he] at e; simp [Sv.v, Value.ownBlock] at e; rw [← e]; exact hG1.lt
    · simp [Sv.v, Value.ownBlock] at e; rw [← e]; exact hF1.lt) (by rw [he]; exact hg1) (by
      rw [hn]; refine xfb he hG1 (by rw [xeh, hn]) hcap hmx ?_; rw [List.length_append, xeh] at hlen ⊢
      rw [hn]; exact hlen) (by
      rw [hfl2]; have e1 : rowF σ ++ sf = (fl.map fun n : Nat => Value.int .i64 (n : Int)) ++ ([.int .i64 ((i + 1 : Nat) : Int)] ++ sf) := by unfold rowF; rw [hfree]; simp
      have e2 : rowF (σ.takeF i ⟨x, 1, val⟩) = fl.map fun n : Nat => Value.int .i64 (n : Int) := by unfold rowF; rw [hfl2]
      rw [e2]; rw [e1] at hF1 hlenF
      exact xfb (v := ⟨some ⟨F, 0, none⟩, fl.length, vf.c⟩) rfl hF1 (by simp) hfcap hmxF hlenF) (Sb.takeF_ok HH.out.ok i _ (by rw [hfree]; simp)) (by
      intro e he'; rcases List.mem_or_eq_of_mem_set he' with he' | rfl
      · exact .inl he'
      · refine .inr ⟨?_, hx.2⟩
        have h1 := hx.fr hfin (fun k hk => hk); refine ⟨h1.1.len, h1.1.cap, h1.1.max, h1.1.rd, fun ad e hk => h1.1.far ad e ?_⟩; rcases hk with e | e | e
        · exact .inl e
        · exact .inr (.inl e)
        · simp [Sv.v, Value.ownBlock] at e
          exact .inr (.inr (e ▸ hFo)))
  exact ⟨_, _, rfl, hag.1, hag.2, hfin⟩
end
theorem Loc.less {w0 w : World} {D D' : Nat → Prop} {L : List (Nat × Nat × List Value)} (H : Loc w0 D L w) (h : ∀ k, D' k → D k) : Loc w0 D' L w :=
  ⟨⟨H.fr.os, H.fr.tape, H.fr.output, H.fr.size, fun k hk hn => H.heap (h k (Classical.not_not.1 hn))⟩, fun x hx => ⟨fun hd => (H.own x hx).1 (h _ hd), (H.own x hx).2⟩, H.nd, fun k hk => H.old k (h k hk)⟩
theorem xex {w : World} {base e z n : Nat} {v : Sv} {xs : List Value} (h : w.ownsRow base e z v.v n xs) : v.n = n := by
  obtain ⟨A, c, e, _⟩ := xjc h; unfold Sv.v at e; simp only [Value.slice.injEq] at e; exact e.2.1
section
variable {D : Nat → Prop} {w w' : World} {g : Nat} {σ σ' : Sb} {vs vf vs' vf' : Sv}
theorem xb4 {w : World} {base e z n k : Nat} {v : Value} {xs : List Value} (h : w.ownsRow base e z v n xs) (hk : v.ownBlock = some k) : ∃ cs, Blk w k e cs := by
  obtain ⟨h1, h2⟩ := h; rcases h2 with ⟨h3, h4⟩ | ⟨k', cap, cur, h3, hk', hh, hn, hm, hs, ht⟩
  · rw [h3] at hk; cases hk
  · rw [h3] at hk
    simp [Value.ownBlock] at hk; subst hk; exact ⟨cur.toList, by simpa [Blk] using hh⟩
theorem SbP.vfvs (h : SbP D w g σ vs vf) {k : Nat} (hk : vf.v.ownBlock = some k) : vs.v.ownBlock ≠ some k := fun e => by
  obtain ⟨c1, h1⟩ := xb4 h.free hk; obtain ⟨c2, h2⟩ := xb4 h.slots e; exact h1.ne h2 (by decide) rfl
theorem xnu (h : SbP D w g σ vs vf) (x : Nd) (val : List UInt8) (hfree : σ.free = []) (hroom : σ.used < σ.room) (hx : ValOk D w g vs vf x.vs val) :
    Calls Tryz.prog 208 #[.pointer (some ⟨g, 0, none⟩), .agg x.cells.toArray] w fun e w' => ∃ D' vs', e = .returned (.tuple #[.int .i64 ((σ.slots.length + 1 : Nat) : Int), .int .i64 0]) ∧ SbP D' w' g (σ.takeN ⟨x, 1, val⟩) vs' vf ∧ Stp D w D' w' ∧ Fr (SbS g vs vf) w w' := by
  have hfn : vf.n = 0 := by rw [h.vfn, hfree]; rfl
  have hbg := h.blk; have hub := h.ok.fit; have hr2 := h.ok.r2; have hfew := h.ok.few; have k1 : ((σ.used : Int) == (σ.room : Int)) = false := by simp; omega
  have HU : Hid ((σ.used : Int) + 1 = ((σ.used + 1 : Nat) : Int)) := hZ (by omega); have hU2 : σ.used < 65536 := by omega
  have hS2 : σ.slots.length ≤ 65536 := by omega
  have hHE := hZ (And.intro hfree hfn); have HH := hZ h
  have hvg : ∀ k, vs.v.ownBlock = some k → Old w k ∧ ¬ k = g := fun k hk => ⟨h.lt k (h.own k (.inr (.inl hk))), by
    obtain ⟨h1, h2⟩ := h.slots; rcases h2 with ⟨h3, h4⟩ | ⟨k', cap, cur, h3, hk', hh, hn, hm, hs, ht⟩
    · rw [h3] at hk; cases hk
    · rw [h3] at hk
      simp [Value.ownBlock] at hk; subst hk; have hb2 : Blk w k' 340 cur.toList := by simpa [Blk] using hh
      exact hb2.ne h.blk (by decide)⟩
  rw [show vf.v = .slice vf.A 0 vf.c by unfold Sv.v; rw [hfn]] at hbg; clear hfree hub hfew hr2 h hfn; have HL := Loc.start w; obtain ⟨w0, rfl⟩ := eW w; go_enter Tryz.func208, Tryz.ntmps208; go_upto_region 0 with fail; refine X39 ?_; clear HL; intro g3 w HL; refine X1g ?_; go_upto_region 1 with fail; refine X1z ?_; intro K hK; (with_reducible refine (xfa (HH.out.below HL.below)).mono ?_); rintro e w ⟨rfl, rfl⟩; refine X22 ?_; clear hK K; have hg3 : ¬ Old w0 g3 := (HL.own _ (.head _)).1; replace HL := HL.adopt (· = g) [(g, 318, [vs.v, .slice vf.A 0 vf.c, .int .i64 (σ.room : Int), .int .i64 (σ.used : Int)])] (by intro y hy; simp at hy; subst hy; exact ⟨rfl, hbg⟩) (by simp); simp only [qm, qn] at HL; go_upto_region 3 with fail; refine rB (Loc.P HL) [] [] [0, 1, 2, 3, 4, 5, 6, 7, 8] 0 ?_; refine X3e ?_; intro HL; refine xab rfl rfl HL (fun W hW => xaf xma _ rfl _ rfl) ?_
  refine X5 ?_; refine X3s ?_; refine X3h ?_; refine xab rfl rfl HL (fun W hW => xaf xi5 _ rfl _ rfl) ?_; refine X5 ?_; refine X3s ?_; refine X3k ?_; go_upto_region 5 with fail; refine X13 ?_; refine X23 ?_; refine X36 ?_; refine X5 ?_; refine X3l ?_; refine X23 ?_; refine X37 ?_; refine X35 ?_; clear HL; intro w HL; go_upto_region 6 with fail; refine X13 ?_; refine X32 ?_; refine X33 ?_; refine X5 ?_; refine X3n ?_; refine X19 ?_; go_upto_region 7 with fail; refine X2o ?_; have hrow : w.ownsRow 0 340 104 vs.v σ.slots.length (rowS σ) := xba HH.out.slots (fun k hk => HL.heap (hvg k hk)); have hvlt : ∀ k, vs.v.ownBlock = some k → k < w.heap.size := fun k hk => HL.lt (hvg k hk)
  have HD := HL.less (D' := fun k => Old w0 k ∧ ¬ (k = g ∨ vs.v.ownBlock = some k)) (fun k hk => ⟨hk.1, fun e => hk.2 (.inl e)⟩); clear HL; have HL := HD; clear HD; have hsz0 : w0.heap.size ≤ w.heap.size := HL.fr.size; go_upto_region 12 with fail; refine rB (Loc.P HL) [11] [7, 8, 9, 10, 11] [0, 1, 2, 3, 4, 5, 6, 7, 8, 9, 10, 11] 0 ?_; refine X3u ?_; intro HL; refine X3d ?_; refine xab rfl rfl HL (fun W hW => xaf xe9 _ rfl _ rfl) ?_; refine X5 ?_; refine xab rfl rfl HL (fun W hW => xah sc316 hW _ rfl _ _ rfl _ _ _ (.tail _ (.head _)) (rfl)) ?_; refine X5 ?_; refine X3p ?_; refine X3q ?_; refine Xf ?_; intro K hK; refine xhz xnt el340 (by decide) _ rfl _ rfl (Slo.len _) ?_; have hb := Blk.new w.drew 340 (x.slo 1).cells; replace hrow := xba (w' := w.drew.alloc (.cells (x.slo 1).cells.toArray 340)) hrow (fun k hk => Below.heap_alloc w.drew _ k (hvlt k hk))
  replace HL := HL.next ((Below.refl _ _).alloc (Nat.le_refl _) (.cells (x.slo 1).cells.toArray 340)); refine X3w ?_; clear hK K; have hsz1 : w0.heap.size ≤ (w.drew.alloc (.cells (x.slo 1).cells.toArray 340)).heap.size := HL.fr.size; refine Xe ?_; intro K hK; refine xd4 xnt el340 _ _ rfl vs σ.slots.length (rowS σ) rfl hrow _ 1 1 (x.slo 1).cells rfl (Rd.of_blk0 (es := []) (by simpa using hb)) (Slo.len _) (Slo.one _) (by omega) (by omega) (by omega) ?_; intro vs' w1 hrow' hgr hv1 hv2; have hfT : Fr (fun k => vs.v.ownBlock = some k) (w.drew.alloc (.cells (x.slo 1).cells.toArray 340)) w1 := (Fr.refl _ _).grown hgr (fun g e => .inl e)
  replace HL := HL.frame hfT (fun k hk hd => hd.2 (.inr hk)) (by
    intro y hy e; simp at hy; rcases hy with rfl | rfl
    · exact hg3 (hvg _ e).1
    · exact (hvg _ e).2 rfl)
  have hn' : Hid (vs'.n = σ.slots.length + 1) := hZ (xex hrow')
  have hv3 : ∀ k, vs'.v.ownBlock = some k → k ≠ g ∧ (vs.v.ownBlock = some k ∨ w0.heap.size ≤ k) := by
    intro k hk; have hgl : g < w0.heap.size := hbg.lt; rcases hv1 k hk with h1 | h1
    · exact ⟨(hvg k h1).2, .inl h1⟩
    · exact ⟨by omega, .inr (by omega)⟩
  refine hK _ _ (fun _ => HL) ?_; clear hK K hfT hgr hv1 hrow hb; refine Xf ?_; intro K hK; refine X3y ?_; clear hK K; intro K hK; refine xbg (xaf xe9 _ rfl _ rfl) ?_; refine X3x ?_; clear hK K; intro K hK; refine xb9 sc316.i _ _ rfl g 0 318 _ vs'.v rfl rfl rfl (HL.blk (.tail _ (.head _))) (by simp) ?_; refine hK _ _ (fun h => by cases h) ?_; clear hK K; replace HL := HL.putAt (i := 1) rfl ((HL.blk (.tail _ (.head _))).set_ 0 vs'.v) (xcp _ _ _ _); simp only [qg, qh] at HL; have hrow2 := xba (w' := w1.setCell ⟨g, 0, none⟩ vs'.v) hrow' (fun k hk => Below.heap_setCell w1 ⟨g, 0, none⟩ vs'.v k (hv3 k hk).1); have hlt2 : ∀ k, vs'.v.ownBlock = some k → k < (w1.setCell ⟨g, 0, none⟩ vs'.v).heap.size := fun k hk => by simpa using hv2 k hk
  clear hrow' hv2; generalize World.setCell w1 _ _ = w2 at *; refine X9 ?_; go_upto_region 13 with fail; refine X13 ?_; refine xaa rfl _ (xaf xe9 _ rfl _ rfl) ?_; refine X5 ?_; refine xaa rfl _ (xah sc316 HL _ rfl _ _ rfl _ _ _ (.tail _ (.head _)) (rfl)) ?_; refine X5 ?_; refine xaa rfl _ (xcs Tryz.underlying316 _ rfl _ _ _ rfl) ?_; refine X1g ?_; go_wp2_with fail; go_ret2; obtain ⟨hfree, hfn⟩ := hHE.out; have hg1 := HL.blk (.tail _ (.head _))
  have hfin : Fr (SbS g vs vf) w0 w2 := by
    refine ⟨HL.fr.os, HL.fr.tape, HL.fr.output, HL.fr.size, fun k hk hn => HL.heap ⟨hk, ?_⟩⟩; rintro (rfl | e)
    · exact hn (.inl rfl)
    · exact hn (.inr (.inl e))
  have hs2 : (σ.takeN ⟨x, 1, val⟩).slots.length = σ.slots.length + 1 := by simp [Sb.takeN]
  have hvf : vf.v = .slice vf.A 0 vf.c := by unfold Sv.v; rw [hfn]
  have hag := HH.out.again (σ' := σ.takeN ⟨x, 1, val⟩) (vs' := vs') (vf' := vf) hfin (by
    rintro k (rfl | e | e)
    · exact .inl (.inl rfl)
    · rcases (hv3 k e).2 with h1 | h1
      · exact .inl (.inr (.inl h1))
      · exact .inr h1
    · exact .inl (.inr (.inr e))) (by
    rintro k (rfl | e | e)
    · exact hg1.lt
    · exact hlt2 k e
    · exact Nat.lt_of_lt_of_le (HH.out.lt k (HH.out.own k (.inr (.inr e)))) HL.fr.size) (by rw [hvf]; exact hg1) (by
      rw [hs2]; have e1 : rowS (σ.takeN ⟨x, 1, val⟩) = rowS σ ++ (x.slo 1).cells := by simp [rowS, Sb.takeN, En.cells]
      rw [e1]
      exact hrow2) (xba HH.out.free (fun k hk => HL.heap ⟨HH.out.lt k (HH.out.own k (.inr (.inr hk))), by
        rintro (e | e)
        · exact xph HH.out hk e
        · exact HH.out.vfvs hk e⟩)) (Sb.takeN_ok HH.out.ok _ hfree hroom) (by
      intro e he; rcases List.mem_append.1 he with he | he
      · exact .inl he
      · simp at he
        subst he; refine .inr ⟨?_, hx.2⟩; have h1 := hx.fr hfin (fun k hk => hk); refine ⟨h1.1.len, h1.1.cap, h1.1.max, h1.1.rd, fun ad e hk => ?_⟩; rcases hk with h2 | h2 | h2
        · exact h1.1.far ad e (.inl h2)
        · rcases (hv3 _ h2).2 with h3 | h3
          · exact h1.1.far ad e (.inr (.inl h3))
          · have := HH.out.lt _ (hx.2 ad e); omega
        · exact h1.1.far ad e (.inr (.inr h2)))
  refine ⟨_, vs', ?_, hag.1, hag.2, hfin⟩; rw [hn'.out]; rfl
def Sb.take (σ : Sb) (e : En) : Sb := match σ.free.getLast? with
  | some k => σ.takeF (k - 1) e
  | none => σ.takeN e
def Sb.next (σ : Sb) : Nat := match σ.free.getLast? with
  | some k => k
  | none => σ.slots.length + 1
theorem xi6 (h : SbP D w g σ vs vf) (x : Nd) (val : List UInt8) (hroom : σ.used < σ.room) (hx : ValOk D w g vs vf x.vs val) :
    Calls Tryz.prog 208 #[.pointer (some ⟨g, 0, none⟩), .agg x.cells.toArray] w fun e w' => ∃ D' vs' vf', e = .returned (.tuple #[.int .i64 (σ.next : Int), .int .i64 0]) ∧ SbP D' w' g (σ.take ⟨x, 1, val⟩) vs' vf' ∧ Stp D w D' w' ∧ Fr (SbS g vs vf) w w' := by
  unfold Sb.take Sb.next
  cases hl : σ.free.getLast? with
  | none =>
    have hf : σ.free = [] := List.getLast?_eq_none_iff.1 hl; refine (xnu h x val hf hroom hx).mono ?_; rintro e w' ⟨D', vs', rfl, h1, h2, h3⟩; exact ⟨D', vs', vf, rfl, h1, h2, h3⟩
  | some k =>
    obtain ⟨fl, hf⟩ := List.getLast?_eq_some_iff.1 hl; have hk := (h.ok.fr k (by rw [hf]; simp)).1; have hk1 : k = (k - 1) + 1 := by omega
    have hf' : σ.free = fl ++ [(k - 1) + 1] := by rw [← hk1]; exact hf
    refine (xmd h x val fl (k - 1) hf' hroom hx).mono ?_; rintro e w' ⟨D', vf', rfl, h1, h2, h3⟩; refine ⟨D', vs, vf', ?_, h1, h2, h3⟩; rw [← hk1]
theorem SbP.more {D' : Nat → Prop} (h : SbP D w g σ vs vf) (h1 : ∀ k, D k → D' k) (h2 : ∀ k, D' k → k < w.heap.size) : SbP D' w g σ vs vf :=
  ⟨h.blk, h.slots, h.free, h.ok, fun k hk => h1 k (h.own k hk), h2, fun e he => ⟨(h.vals e he).1, fun ad hd => h1 _ ((h.vals e he).2 ad hd)⟩⟩
theorem sb_new (r : Nat) (h1 : 1 ≤ r) (h2 : r ≤ 65536) : Calls Tryz.prog 151 #[.int .i64 (r : Int)] w fun e w' => ∃ g, e = .returned (.tuple #[.pointer (some ⟨g, 0, none⟩), .int .i64 0]) ∧ w.heap.size ≤ g ∧ SbP (· = g) w' g ⟨[], [], r, 0⟩ Sv.nil Sv.nil ∧ Below w.heap.size w w' := by
  have k1 : decide ((r : Int) < 1) = false := by simp; omega
  have k2 : decide (65536 < (r : Int)) = false := by simp; omega
  have HL := Loc.start w; obtain ⟨w0, rfl⟩ := eW w; go_enter Tryz.func151, Tryz.ntmps151; go_upto_region 0 with fail; refine X2z ?_; go_upto_region 1 with fail; refine X1o ?_; refine X2b ?_; go_upto_region 3 with fail; refine X11 ?_; refine xaa rfl _ (xbq bs318 _ rfl _ (by exact bd318_32 _)) ?_; refine X5 ?_; refine xcb rfl _ rfl HL _ rfl ?_; clear HL; intro g12 w HL; refine Xt ?_; refine X1f ?_; go_wp2_with fail; go_ret2; have hg := HL.blk (.head _); refine ⟨g12, rfl, ?_, ⟨hg, World.ownsRow_nil _ _ _ _, World.ownsRow_nil _ _ _ _, ⟨h1, h2, rfl, Nat.zero_le _, fun n hn => by simp at hn⟩, ?_, ?_, fun e he => by simp at he⟩, HL.below⟩
  · have := (HL.own _ (.head _)).1
    exact Nat.not_lt.1 this
  · rintro k (rfl | e | e)
    · rfl
    · cases e
    · cases e
  · rintro k rfl; exact hg.lt
end
end Go.Proofs.YtkjjdgnkelchfaaGreat
