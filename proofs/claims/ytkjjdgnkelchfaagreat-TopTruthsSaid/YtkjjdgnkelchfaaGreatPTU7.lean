import Derived.Test.YtkjjdgnkelchfaaGreatPTU6
set_option linter.unusedSimpArgs false
set_option linter.unusedVariables false
set_option maxRecDepth 100000
set_option maxHeartbeats 16000000
namespace Go.Proofs.YtkjjdgnkelchfaaGreat
open Go Go.RowKit
theorem Blk.ne {w : World} {g g' : Nat} {t t' : TypeId} {cs cs' : List Value} (h : Blk w g t cs) (h' : Blk w g' t' cs') (hne : t ≠ t') : g ≠ g' := by
  rintro rfl; unfold Blk at h h'; rw [h] at h'; injection h' with h'; injection h' with _ ht; exact hne ht
theorem Loc.adopt {w0 w : World} {L : List (Nat × Nat × List Value)} (H : Loc w0 (Old w0) L w) (S : Nat → Prop) (L2 : List (Nat × Nat × List Value)) (h2 : ∀ x ∈ L2, S x.1 ∧ Blk w0 x.1 x.2.1 x.2.2) (n2 : L2.Pairwise (fun x y => x.1 ≠ y.1)) :
    Loc w0 (fun k => Old w0 k ∧ ¬ S k) (L ++ L2) w := by
  refine ⟨⟨H.fr.os, H.fr.tape, H.fr.output, H.fr.size, fun k hk hn => H.heap hk⟩, ?_, ?_, fun k hk => hk.1⟩
  · intro x hx
    rcases List.mem_append.1 hx with hx | hx
    · exact ⟨fun hd => (H.own x hx).1 hd.1, (H.own x hx).2⟩
    · exact ⟨fun hd => hd.2 (h2 x hx).1, H.farO (h2 x hx).2⟩
  · refine List.pairwise_append.2 ⟨H.nd, n2, fun x hx y hy e => ?_⟩
    have h3 := (H.own x hx).1; rw [e] at h3; exact h3 (h2 y hy).2.lt
theorem Loc.frS {w0 w : World} {S : Nat → Prop} {L : List (Nat × Nat × List Value)} (H : Loc w0 (fun k => Old w0 k ∧ ¬ S k) L w) : Fr S w0 w :=
  ⟨H.fr.os, H.fr.tape, H.fr.output, H.fr.size, fun k hk hn => H.heap ⟨hk, hn⟩⟩
theorem xgu {w : World} {e z n G : Nat} {v : Sv} {xs sp : List Value} (hv : v = ⟨some ⟨G, 0, none⟩, n, v.c⟩) (hb : Blk w G e (xs ++ sp)) (hl : xs.length = n * z) (hn : n ≤ v.c) (hm : v.c ≤ maxLen) (hs : (xs ++ sp).length = v.c * z) : w.ownsRow 0 e z v.v n xs := by
  refine ⟨hl, .inr ⟨G, v.c, (xs ++ sp).toArray, by rw [hv]; rfl, Nat.zero_le _, hb, hn, hm, by simpa using hs, ?_⟩⟩; simp [List.take_left' hl]
theorem xfw (σ : Sb) : (rowS σ).length = σ.slots.length * 104 := xbx En.len _
section
variable {D : Nat → Prop} {w w' : World} {g : Nat} {σ : Sb} {vs vf : Sv}
theorem SbP.slotC (h : SbP D w g σ vs vf) (i : Nat) (hi : i < σ.slots.length) : ∃ G sp, vs = ⟨some ⟨G, 0, none⟩, σ.slots.length, vs.c⟩ ∧ D G ∧ SbS g vs vf G ∧ Blk w G 340 (rowS σ ++ sp) ∧ σ.slots.length ≤ vs.c ∧ vs.c ≤ maxLen ∧ (rowS σ ++ sp).length = vs.c * 104 := by
  obtain ⟨G, sp, e, ho, hb, h1, h2, h3⟩ := xfv h.slots (by omega); exact ⟨G, sp, e, h.own G (.inr (.inl ho)), .inr (.inl ho), hb, h1, h2, h3⟩
def ValOk (D : Nat → Prop) (w : World) (g : Nat) (vs vf : Sv) (x : Sv) (l : List UInt8) : Prop := Lft (SbS g vs vf) w x.A x.n x.c l ∧ ∀ ad, x.A = some ad → D ad.block
theorem ValOk.fr {D : Nat → Prop} {x : Sv} {l : List UInt8} (h : ValOk D w g vs vf x l) {T : Nat → Prop} (hf : Fr T w w') (hT : ∀ k, T k → SbS g vs vf k) : ValOk D w' g vs vf x l := ⟨h.1.fr hf hT, h.2⟩
def Sb.put (σ : Sb) (i : Nat) (e : En) : Sb := { σ with slots := σ.slots.set i e }
theorem Sb.put_ok (h : σ.Ok) (i : Nat) (e : En) : (σ.put i e).Ok := ⟨h.r1, h.r2, by simp [Sb.put, h.fit], by simpa [Sb.put] using h.few, fun n hn => by simpa [Sb.put] using h.fr n hn⟩
theorem SbP.turned (h : SbP D w g σ vs vf) (i : Nat) (hi : i < σ.slots.length) (e : En) (G : Nat) (sp : List Value) (hv : vs = ⟨some ⟨G, 0, none⟩, σ.slots.length, vs.c⟩) (hb : Blk w' G 340 (rowS (σ.put i e) ++ sp))
    (hl : (rowS σ ++ sp).length = vs.c * 104) (hc : σ.slots.length ≤ vs.c) (hm : vs.c ≤ maxLen) (hf : Fr (· = G) w w') (hg : G ≠ g) (hGf : vf.v.ownBlock ≠ some G) (hS : SbS g vs vf G) (he : ValOk D w' g vs vf e.nd.vs e.val) : SbP D w' g (σ.put i e) vs vf := by
  have hlen : (rowS (σ.put i e)).length = (rowS σ).length := by rw [xfw, xfw]; simp [Sb.put]
  have hT : ∀ k, k = G → SbS g vs vf k := fun k hk => by rw [hk]; exact hS
  refine ⟨h.blk.fr hf (fun e => hg e.symm), ?_, xbq h.free (fun k hk => hf.block k (h.lt k (h.own k (.inr (.inr hk)))) (fun e => hGf (e ▸ hk))), Sb.put_ok h.ok i e, h.own, fun k hk => Nat.lt_of_lt_of_le (h.lt k hk) hf.size, ?_⟩
  · have hn : (σ.put i e).slots.length = σ.slots.length := by simp [Sb.put]
    rw [hn]; exact xgu hv hb (by rw [xfw, hn]) hc hm (by rw [List.length_append, hlen, ← List.length_append, hl])
  · intro x hx
    rcases List.mem_or_eq_of_mem_set hx with hx | rfl
    · have h1 := h.vals x hx
      exact ⟨h1.1.fr hf hT, h1.2⟩
    · exact he
theorem SbP.apart (h : SbP D w g σ vs vf) (G : Nat) (cs : List Value) (hb : Blk w G 340 cs) : G ≠ g ∧ vf.v.ownBlock ≠ some G := by
  refine ⟨hb.ne h.blk (by decide), fun e => ?_⟩; obtain ⟨h1, h2⟩ := h.free; rcases h2 with ⟨h3, h4⟩ | ⟨k, cap, cur, h3, hk, hh, hn, hm, hs, ht⟩
  · rw [h3] at e; cases e
  · rw [h3] at e
    simp [Value.ownBlock] at e; subst e; have hb2 : Blk w k 3 cur.toList := by simpa [Blk] using hh
    exact hb.ne hb2 (by decide) rfl
theorem En.s_nd (e : En) (x : Nd) (val : List UInt8) : splice e.cells 0 x.cells = (⟨x, e.count, val⟩ : En).cells := by
  have h := xa5 [] e.nd.cells [.int .i64 e.count] x.cells (by rw [Nd.len, Nd.len]); simp only [qn, qs] at h; rw [En.cells_eq, En.cells_eq, h]
theorem En.s_count (e : En) (c : Int) : e.cells.set 103 (.int .i64 c) = (⟨e.nd, c, e.val⟩ : En).cells := Slo.s_count _ _
theorem sb_set (h : SbP D w g σ vs vf) (n : Int) (i : Nat) (hn : n = (i : Int) + 1) (hi : i < σ.slots.length) (hc : σ.slots[i].count ≠ 0) (x : Nd) (val : List UInt8) (hx : ValOk D w g vs vf x.vs val) :
    Calls Tryz.prog 232 #[.pointer (some ⟨g, 0, none⟩), .int .i64 n, .agg x.cells.toArray] w fun e w' => e = .returned (.int .i64 0) ∧ SbP D w' g (σ.put i ⟨x, σ.slots[i].count, val⟩) vs vf ∧ Fr (SbS g vs vf) w w' := by
  obtain ⟨G, sp, he, hD, hS, hb, hcap, hmx, hlen⟩ := h.slotC i hi; have HA : vs.A = some ⟨G, 0, none⟩ := by rw [he]
  have hspl : splice (rowS σ ++ sp) (i * 104 + 0) x.cells = rowS (σ.put i ⟨x, σ.slots[i].count, val⟩) ++ sp := by
    unfold rowS Sb.put; exact xgl En.len σ.slots sp i 0 x.cells _ hi (by rw [Nd.len]; omega) (En.s_nd _ _ _)
  have hfit : i * 104 + 0 + 103 ≤ (rowS σ ++ sp).length := by rw [hlen]; omega
  have HH := hZ (And.intro h (And.intro hn hc)); have HE := hZ he; have HSP := hZ hspl; have hap := h.apart G _ hb; have hlen' := hZ hlen; clear h he hn hc hspl hlen; have HL := Loc.start w; go_enter Tryz.func232, Tryz.ntmps232; go_upto_region 0 with fail; refine Xv ?_; refine X2x ?_; clear HL; intro g5 w HL; refine X1c ?_; go_upto_region 1 with fail; refine X20 ?_; intro K hK; refine X2m ?_; rintro e w ⟨rfl, rfl⟩; refine X23 ?_; clear hK K; go_upto_region 3 with fail; refine X2n ?_; intro K hK; refine X2o ?_; refine X2p ?_; rintro e w ⟨G', hG, rfl, rfl⟩; obtain rfl : G = G' := by rw [HA] at hG; cases hG; rfl
  refine X2q ?_; clear hK K; go_upto_region 4 with fail; refine X2r ?_; replace HL := HL.adopt (· = G) [(G, 340, rowS σ ++ sp)] (by intro y hy; simp at hy; subst hy; exact ⟨rfl, hb⟩) (by simp); simp only [qm, qn] at HL; go_upto_region 6 with fail; refine X14 ?_; refine X2w ?_; refine X18 ?_; refine xaa rfl _ (xcr xr4 _ rfl _ _ rfl) ?_; refine X5 ?_; refine xea xe3 rfl _ _ rfl HL 1 G _ 340 _ _ _ rfl rfl rfl (Nd.len _) hfit (Nd.one _) HSP.out ?_; refine X2y ?_; clear HL; intro w HL; go_upto_region 7 with fail; refine X1k ?_; go_wp2_with fail; go_ret; have hf : Fr (· = G) _ _ := HL.frS; refine ⟨rfl, HH.out.1.turned i hi _ G sp HE.out (HL.blk (.tail _ (.head _))) hlen'.out hcap hmx hf hap.1 hap.2 hS (hx.fr hf (fun k hk => by rw [hk]; exact hS)), ?_⟩; exact ⟨hf.os, hf.tape, hf.output, hf.size, fun k hk hn => hf.block k hk (fun e => hn (by rw [e]; exact hS))⟩
theorem xm3 (h : SbP D w g σ vs vf) (i : Nat) (hi : i < σ.slots.length) : ValOk D w g vs vf σ.slots[i].nd.vs σ.slots[i].val := h.vals _ (List.getElem_mem hi)
theorem xr7 (i : Nat) (hi : i < σ.slots.length) (sp : List Value) (c : Int) : (rowS σ ++ sp).set (i * 104 + 103) (.int .i64 c) = rowS (σ.put i ⟨σ.slots[i].nd, c, σ.slots[i].val⟩) ++ sp := by
  unfold rowS Sb.put; exact fm_set En.len σ.slots sp i 103 _ _ hi (by omega) (En.s_count _ _)
theorem sb_hold (h : SbP D w g σ vs vf) (n : Int) (i : Nat) (hn : n = (i : Int) + 1) (hi : i < σ.slots.length) (hc : 0 < σ.slots[i].count) (hmax : σ.slots[i].count < 1073741824) :
    Calls Tryz.prog 188 #[.pointer (some ⟨g, 0, none⟩), .int .i64 n] w fun e w' => e = .returned (.int .i64 0) ∧ SbP D w' g (σ.put i ⟨σ.slots[i].nd, σ.slots[i].count + 1, σ.slots[i].val⟩) vs vf ∧ Fr (SbS g vs vf) w w' := by
  obtain ⟨G, sp, he, hD, hS, hb, hcap, hmx, hlen⟩ := h.slotC i hi; have HA : vs.A = some ⟨G, 0, none⟩ := by rw [he]
  have hfit : i * 104 + 103 < (rowS σ ++ sp).length := by rw [hlen]; omega
  have HG := hZ (xh9 i hi sp); have HSP := hZ (xr7 i hi sp (σ.slots[i].count + 1)); have HH := hZ (And.intro h (And.intro hn (show σ.slots[i].count ≠ 0 by omega))); have HV := hZ (xm3 h i hi); have HE := hZ he; have hap := h.apart G _ hb; have hlen' := hZ hlen; have k1 : (σ.slots[i].count == 1073741824) = false := by simp; omega
  have HC := hZ (rfl : σ.slots[i].count + 1 = σ.slots[i].count + 1); clear h he hn hlen; have HL := Loc.start w; go_enter Tryz.func188, Tryz.ntmps188; go_upto_region 0 with fail; refine X1k ?_; go_upto_region 1 with fail; refine X20 ?_; intro K hK; refine X2m ?_; rintro e w ⟨rfl, rfl⟩; refine X23 ?_; clear hK K; go_upto_region 3 with fail; refine X2n ?_; intro K hK; refine X2o ?_; refine X2p ?_; rintro e w ⟨G', hG, rfl, rfl⟩; obtain rfl : G = G' := by rw [HA] at hG; cases hG; rfl
  refine X2q ?_; clear hK K; go_upto_region 4 with fail; refine X2r ?_; replace HL := HL.adopt (· = G) [(G, 340, rowS σ ++ sp)] (by intro y hy; simp at hy; subst hy; exact ⟨rfl, hb⟩) (by simp); simp only [qn] at HL; go_upto_region 6 with fail; refine X16 ?_; refine X2z ?_; refine X5 ?_; refine X30 ?_; refine X2c ?_; go_upto_region 8 with fail; refine X16 ?_; refine X2z ?_; refine X5 ?_; refine X30 ?_; refine X5 ?_; refine xaa rfl _ (xbr _ _ rfl _ _ _ rfl rfl HC.out (by omega)) ?_; refine X18 ?_; refine X2z ?_; refine X31 ?_; refine X2y ?_; clear HL; intro w HL; go_upto_region 9 with fail; refine X1k ?_; go_wp2_with fail; go_ret; have hf : Fr (· = G) _ _ := HL.frS; refine ⟨rfl, HH.out.1.turned i hi _ G sp HE.out (HL.blk (.head _)) hlen'.out hcap hmx hf hap.1 hap.2 hS (HV.out.fr hf (fun k hk => by rw [hk]; exact hS)), ?_⟩
  exact ⟨hf.os, hf.tape, hf.output, hf.size, fun k hk hn => hf.block k hk (fun e => hn (by rw [e]; exact hS))⟩
theorem xm4 (h : SbP D w g σ vs vf) (n : Int) (i : Nat) (hn : n = (i : Int) + 1) (hi : i < σ.slots.length) (hc : 1 < σ.slots[i].count) (hmax : σ.slots[i].count < 1099511627776) :
    Calls Tryz.prog 190 #[.pointer (some ⟨g, 0, none⟩), .int .i64 n] w fun e w' => e = .returned (.tuple #[.bool false, .int .i64 0]) ∧ SbP D w' g (σ.put i ⟨σ.slots[i].nd, σ.slots[i].count - 1, σ.slots[i].val⟩) vs vf ∧ Fr (SbS g vs vf) w w' := by
  obtain ⟨G, sp, he, hD, hS, hb, hcap, hmx, hlen⟩ := h.slotC i hi; have HA : vs.A = some ⟨G, 0, none⟩ := by rw [he]
  have hfit : i * 104 + 103 < (rowS σ ++ sp).length := by rw [hlen]; omega
  have HG := hZ (xh9 i hi sp); have HSP := hZ (xr7 i hi sp (σ.slots[i].count - 1))
  have HG2 : Hid ((rowS (σ.put i ⟨σ.slots[i].nd, σ.slots[i].count - 1, σ.slots[i].val⟩) ++ sp)[i * 104 + 103]? = some (.int .i64 (σ.slots[i].count - 1))) := by
    show _ = _; rw [← HSP.out, List.getElem?_set_self hfit]
  have HH := hZ (And.intro h (And.intro hn (show σ.slots[i].count ≠ 0 by omega))); have HV := hZ (xm3 h i hi); have HE := hZ he; have hap := h.apart G _ hb; have hlen' := hZ hlen; have k1 : decide (0 < σ.slots[i].count - 1) = true := by simp; omega
  have HC := hZ (rfl : σ.slots[i].count - 1 = σ.slots[i].count - 1); clear h he hn hlen; have HL := Loc.start w; go_enter Tryz.func190, Tryz.ntmps190; go_upto_region 0 with fail; refine X32 ?_; go_upto_region 1 with fail; refine X20 ?_; intro K hK; refine X2m ?_; rintro e w ⟨rfl, rfl⟩; refine X23 ?_; clear hK K; go_upto_region 3 with fail; refine X2n ?_; intro K hK; refine X2o ?_; refine X2p ?_; rintro e w ⟨G', hG, rfl, rfl⟩; obtain rfl : G = G' := by rw [HA] at hG; cases hG; rfl
  refine X2q ?_; clear hK K; go_upto_region 4 with fail; refine X2r ?_; replace HL := HL.adopt (· = G) [(G, 340, rowS σ ++ sp)] (by intro y hy; simp at hy; subst hy; exact ⟨rfl, hb⟩) (by simp); simp only [qn] at HL; go_upto_region 6 with fail; refine X16 ?_; refine X2z ?_; refine X5 ?_; refine X30 ?_; refine X5 ?_; refine xaa rfl _ (xbv _ _ rfl _ _ _ rfl rfl HC.out (by omega)) ?_; refine X18 ?_; refine X2z ?_; refine X31 ?_; refine X2y ?_; clear HL; intro w HL; go_upto_region 7 with fail; refine X16 ?_; refine X2z ?_; refine X5 ?_; refine xaa rfl _ (xag sc3 HL _ rfl _ _ rfl _ _ _ (.head _) HG2.out) ?_; refine X2c ?_; go_upto_region 8 with fail; refine X32 ?_; go_wp2_with fail; go_ret2; have hf : Fr (· = G) _ _ := HL.frS
  refine ⟨rfl, HH.out.1.turned i hi _ G sp HE.out (HL.blk (.head _)) hlen'.out hcap hmx hf hap.1 hap.2 hS (HV.out.fr hf (fun k hk => by rw [hk]; exact hS)), ?_⟩; exact ⟨hf.os, hf.tape, hf.output, hf.size, fun k hk hn => hf.block k hk (fun e => hn (by rw [e]; exact hS))⟩
end
structure Stp (D : Nat → Prop) (w : World) (D' : Nat → Prop) (w' : World) : Prop where
  new : ∀ k, D' k → D k ∨ w.heap.size ≤ k
  old : ∀ k, D k → D' k
  fr : Fr D w w'
theorem Stp.of_below {D : Nat → Prop} {w w' : World} (h : Below w.heap.size w w') : Stp D w D w' := ⟨fun k h => .inl h, fun k h => h, Fr.of_below h⟩
theorem Stp.of_fr {D S : Nat → Prop} {w w' : World} (h : Fr S w w') (hS : ∀ k, S k → D k) : Stp D w D w' :=
  ⟨fun k h => .inl h, fun k h => h, ⟨h.os, h.tape, h.output, h.size, fun k hk hn => h.block k hk (fun s => hn (hS k s))⟩⟩
theorem Stp.trans {D D1 D2 : Nat → Prop} {w w1 w2 : World} (h : Stp D w D1 w1) (k : Stp D1 w1 D2 w2) : Stp D w D2 w2 :=
  ⟨fun b hb => by
    rcases k.new b hb with h1 | h1
    · exact h.new b h1
    · exact .inr (Nat.le_trans h.fr.size h1), fun b hb => k.old b (h.old b hb),
   ⟨k.fr.os.trans h.fr.os, k.fr.tape.trans h.fr.tape, k.fr.output.trans h.fr.output, Nat.le_trans h.fr.size k.fr.size, fun b hb hn => (k.fr.block b (Nat.lt_of_lt_of_le hb h.fr.size) (fun hd => by
    rcases h.new b hd with h1 | h1
    · exact hn h1
    · omega)).trans (h.fr.block b hb hn)⟩⟩
section
variable {D : Nat → Prop} {w w' : World} {g : Nat} {σ σ' : Sb} {vs vf vs' vf' : Sv}
theorem SbP.again (h : SbP D w g σ vs vf) (hf : Fr (SbS g vs vf) w w') (hS : ∀ k, SbS g vs' vf' k → SbS g vs vf k ∨ w.heap.size ≤ k) (hlt : ∀ k, SbS g vs' vf' k → k < w'.heap.size)
    (blk : Blk w' g 318 [vs'.v, vf'.v, .int .i64 (σ'.room : Int), .int .i64 (σ'.used : Int)]) (slots : w'.ownsRow 0 340 104 vs'.v σ'.slots.length (rowS σ')) (free : w'.ownsRow 0 3 1 vf'.v σ'.free.length (rowF σ')) (ok : σ'.Ok)
    (hv : ∀ e ∈ σ'.slots, e ∈ σ.slots ∨ (Lft (SbS g vs' vf') w' e.nd.vs.A e.nd.vs.n e.nd.vs.c e.val ∧ ∀ ad, e.nd.vs.A = some ad → D ad.block)) :
    SbP (fun k => D k ∨ SbS g vs' vf' k) w' g σ' vs' vf' ∧ Stp D w (fun k => D k ∨ SbS g vs' vf' k) w' := by
  refine ⟨⟨blk, slots, free, ok, fun k hk => .inr hk, ?_, ?_⟩, ?_, fun k hk => .inl hk, ?_⟩
  · intro k hk
    rcases hk with hk | hk
    · exact Nat.lt_of_lt_of_le (h.lt k hk) hf.size
    · exact hlt k hk
  · intro e he
    rcases hv e he with h1 | ⟨h1, h2⟩
    · obtain ⟨h2, h3⟩ := h.vals e h1
      refine ⟨⟨h2.len, h2.cap, h2.max, h2.rd.fr hf (fun ad e t => h2.far ad e t), ?_⟩, fun ad e => .inl (h3 ad e)⟩; intro ad e hk; rcases hS _ hk with h4 | h4
      · exact h2.far ad e h4
      · have := h.lt _ (h3 ad e); omega
    · exact ⟨h1, fun ad e => .inl (h2 ad e)⟩
  · intro k hk
    rcases hk with hk | hk
    · exact .inl hk
    · rcases hS k hk with h1 | h1
      · exact .inl (h.own k h1)
      · exact .inr h1
  · exact ⟨hf.os, hf.tape, hf.output, hf.size, fun k hk hn => hf.block k hk (fun s => hn (h.own k s))⟩
theorem sbs_ne {k : Nat} (h : SbP D w g σ vs vf) (hk : vf.v.ownBlock = some k) : k ≠ g := by
  obtain ⟨h1, h2⟩ := h.free; rcases h2 with ⟨h3, h4⟩ | ⟨k', cap, cur, h3, hk', hh, hn, hm, hs, ht⟩
  · rw [h3] at hk; cases hk
  · rw [h3] at hk
    simp [Value.ownBlock] at hk; subst hk; have hb2 : Blk w k' 3 cur.toList := by simpa [Blk] using hh
    exact hb2.ne h.blk (by decide)
end
theorem fold_set (l : List Value) : ∀ (cs : List Value) (off k : Nat), off + k + l.length ≤ cs.length → (l.zipIdx k).foldl (fun (cs : Array Value) (x : Value × Nat) => cs.setIfInBounds (off + x.2) x.1) cs.toArray = (splice cs (off + k) l).toArray := by
  induction l with
  | nil => intro cs off k h; simp [xcq]
  | cons v l ih =>
    intro cs off k h; simp only [qr] at h; rw [List.zipIdx_cons, List.foldl_cons]; simp only [qf]; rw [ih (cs.set (off + k) v) off (k + 1) (by simp; omega), ← xeo cs (off + k) v l (by omega)]; rfl
theorem xaj {place : Nat → Option (Nat × Nat)} {cs : List Value} {i off size : Nat} {v : Value} {vs : List Value} {rest : List (Nat × Value)} {r : Option (Array Value)} (hp : place i = some (off, size)) (hv : v.cells = vs.toArray) (hs : vs.length = size) (hf : off + size ≤ cs.length)
    (h : Instr.fill place (splice cs off vs).toArray rest = r) : Instr.fill place cs.toArray ((i, v) :: rest) = r := by
  rw [← h]; have e := fold_set vs cs off 0 (by omega); simp only [Instr.fill, hp, hv]; rw [if_neg (by simp; omega)]; congr 1; rw [← Array.foldl_toList, Array.toList_zipIdx]; exact e
structure BS (P : Program) (T : Nat) (zs : List Value) (pl : List (Nat × Nat)) : Prop where
  h : ∀ parts, P.built T parts = Instr.fill (fun x => pl.toArray[x]?) zs.toArray parts
theorem BS.of {P : Program} {T : Nat} {fs : Array Field} {zs : List Value} {pl : List (Nat × Nat)} (hu : P.underlying T = some (.struct fs)) (hz : (P.info? T).map (·.zero) = some (some (.agg zs.toArray)))
    (hp : fs.toList.mapM (fun f => (P.info? f.type).map fun i => (f.offset, i.size)) = some pl) : BS P T zs pl := by
  constructor; intro parts
  cases hq : P.info? T with
  | none => simp [hq] at hz
  | some it =>
    have h1 : it.zero = some (.agg zs.toArray) := by simpa [hq] using hz
    simp [Program.built, hq, hu, hp, h1, Value.cells]
section
variable {P : Program} {T : TypeId} {w : World} {o : Oper} {a : Act} {zs : List Value} {pl : List (Nat × Nat)}
theorem xbf (B : BS P T zs pl) (parts : List (Nat × Operand)) (ho : o.op = .build T parts.toArray) (cs : List Value) (h : Instr.fill (fun x => pl.toArray[x]?) zs.toArray (parts.map fun (i, x) => (i, a.eval x)) = some cs.toArray) :
    (execOp a.eval o).run P w = .ok (.value (.agg cs.toArray)) w :=
  xdq parts.toArray ho cs.toArray (by rw [B.h]; simpa using h)
theorem xc8 (B : BS P T zs pl) (ho : o.op = .build T #[]) : (execOp a.eval o).run P w = .ok (.value (.agg zs.toArray)) w :=
  xbf B [] ho zs rfl
end
theorem xa0 {α : Type} (L : List α) (k : Nat) (v : α) (h : k < L.length) : splice L k [v] = L.set k v := by
  have := xeo L k v [] h; rw [xcq] at this; exact this.symm
theorem xeb (v : Value) (h : v.oneCell' = true) : v.cells = [v].toArray := by cases v <;> first | rfl | (simp [Value.oneCell'] at h)
theorem bs32 : BS Tryz.prog 32 Nod.z.cells [(0, 1), (1, 32), (33, 32), (65, 32), (97, 32)] := BS.of Tryz.underlying32 (by kernel_rfl) (by kernel_rfl)
theorem bd32_0 (x1 : D32) (x2 : D32) : Instr.fill (fun x => [(0, 1), (1, 32), (33, 32), (65, 32), (97, 32)].toArray[x]?) Nod.z.cells.toArray [(0, Value.int .u8 1), (1, .agg x1.c.toArray), (2, .agg x2.c.toArray)] = some ((⟨1, x1, x2, D32.z, D32.z⟩ : Nod)).cells.toArray := by
  rw [show Nod.z = (⟨0, D32.z, D32.z, D32.z, D32.z⟩ : Nod) from rfl]; refine xaj (vs := [Value.int .u8 1]) rfl (rfl) (rfl) (by rw [Nod.len]; decide) ?_; rw [xa0 _ _ _ (by rw [Nod.len]; decide)]; rw [show (⟨0, D32.z, D32.z, D32.z, D32.z⟩ : Nod).cells.set 0 (Value.int .u8 1) = (⟨1, D32.z, D32.z, D32.z, D32.z⟩ : Nod).cells from Nod.s_kind (⟨0, D32.z, D32.z, D32.z, D32.z⟩ : Nod) (1)]; refine xaj (vs := x1.c) rfl (rfl) (D32.cl _) (by rw [Nod.len]; decide) ?_; rw [Nod.s_key]; refine xaj (vs := x2.c) rfl (rfl) (D32.cl _) (by rw [Nod.len]; decide) ?_; rw [Nod.s_val]; rfl
theorem xqp (x3 : D32) (x4 : D32) : Instr.fill (fun x => [(0, 1), (1, 32), (33, 32), (65, 32), (97, 32)].toArray[x]?) Nod.z.cells.toArray [(0, Value.int .u8 2), (3, .agg x3.c.toArray), (4, .agg x4.c.toArray)] = some ((⟨2, D32.z, D32.z, x3, x4⟩ : Nod)).cells.toArray := by
  rw [show Nod.z = (⟨0, D32.z, D32.z, D32.z, D32.z⟩ : Nod) from rfl]; refine xaj (vs := [Value.int .u8 2]) rfl (rfl) (rfl) (by rw [Nod.len]; decide) ?_; rw [xa0 _ _ _ (by rw [Nod.len]; decide)]; rw [show (⟨0, D32.z, D32.z, D32.z, D32.z⟩ : Nod).cells.set 0 (Value.int .u8 2) = (⟨2, D32.z, D32.z, D32.z, D32.z⟩ : Nod).cells from Nod.s_kind (⟨0, D32.z, D32.z, D32.z, D32.z⟩ : Nod) (2)]; refine xaj (vs := x3.c) rfl (rfl) (D32.cl _) (by rw [Nod.len]; decide) ?_; rw [Nod.s_left]; refine xaj (vs := x4.c) rfl (rfl) (D32.cl _) (by rw [Nod.len]; decide) ?_; rw [Nod.s_right]; rfl
theorem bs34 : BS Tryz.prog 34 Prv.z.cells [(0, 1), (1, 129)] := BS.of Tryz.underlying34 (by kernel_rfl) (by kernel_rfl)
theorem bs114 : BS Tryz.prog 114 Sai.z.cells [(0, 1), (1, 32)] := BS.of Tryz.underlying114 (by kernel_rfl) (by kernel_rfl)
theorem xr8 (x1 : D32) : Instr.fill (fun x => [(0, 1), (1, 32)].toArray[x]?) Sai.z.cells.toArray [(0, Value.bool true), (1, .agg x1.c.toArray)] = some ((⟨true, x1⟩ : Sai)).cells.toArray := by
  rw [show Sai.z = (⟨false, D32.z⟩ : Sai) from rfl]; refine xaj (vs := [Value.bool true]) rfl (rfl) (rfl) (by rw [Sai.len]; decide) ?_; rw [xa0 _ _ _ (by rw [Sai.len]; decide)]; rw [show (⟨false, D32.z⟩ : Sai).cells.set 0 (Value.bool true) = (⟨true, D32.z⟩ : Sai).cells from Sai.s_there (⟨false, D32.z⟩ : Sai) (true)]; refine xaj (vs := x1.c) rfl (rfl) (D32.cl _) (by rw [Sai.len]; decide) ?_; rw [Sai.s_val]; rfl
theorem bs141 : BS Tryz.prog 141 Cla.z.cells [(0, 1), (1, 1)] := BS.of Tryz.underlying141 (by kernel_rfl) (by kernel_rfl)
theorem xr9 (x0 : Sv) (x1 : Sv) : Instr.fill (fun x => [(0, 1), (1, 1)].toArray[x]?) Cla.z.cells.toArray [(0, x0.v), (1, x1.v)] = some ((⟨x0, x1⟩ : Cla)).cells.toArray := by
  rw [show Cla.z = (⟨Sv.nil, Sv.nil⟩ : Cla) from rfl]; refine xaj (vs := [x0.v]) rfl (rfl) (rfl) (by rw [Cla.len]; decide) ?_; rw [xa0 _ _ _ (by rw [Cla.len]; decide)]; rw [show (⟨Sv.nil, Sv.nil⟩ : Cla).cells.set 0 (x0.v) = (⟨x0, Sv.nil⟩ : Cla).cells from Cla.s_fst (⟨Sv.nil, Sv.nil⟩ : Cla) (x0)]; refine xaj (vs := [x1.v]) rfl (rfl) (rfl) (by rw [Cla.len]; decide) ?_; rw [xa0 _ _ _ (by rw [Cla.len]; decide)]; rw [show (⟨x0, Sv.nil⟩ : Cla).cells.set 1 (x1.v) = (⟨x0, x1⟩ : Cla).cells from Cla.s_snd (⟨x0, Sv.nil⟩ : Cla) (x1)]; rfl
theorem bs208 : BS Tryz.prog 208 Say.z.cells [(0, 1), (1, 1), (2, 1)] := BS.of Tryz.underlying208 (by kernel_rfl) (by kernel_rfl)
theorem bd208_9 (x0 : Bool) (x1 : Bool) (x2 : Bool) : Instr.fill (fun x => [(0, 1), (1, 1), (2, 1)].toArray[x]?) Say.z.cells.toArray [(0, Value.bool x0), (1, Value.bool x1), (2, Value.bool x2)] = some ((⟨x0, x1, x2⟩ : Say)).cells.toArray := by
  rw [show Say.z = (⟨false, false, false⟩ : Say) from rfl]; refine xaj (vs := [Value.bool x0]) rfl (rfl) (rfl) (by rw [Say.len]; decide) ?_; rw [xa0 _ _ _ (by rw [Say.len]; decide)]; rw [show (⟨false, false, false⟩ : Say).cells.set 0 (Value.bool x0) = (⟨x0, false, false⟩ : Say).cells from Say.s_fst (⟨false, false, false⟩ : Say) (x0)]; refine xaj (vs := [Value.bool x1]) rfl (rfl) (rfl) (by rw [Say.len]; decide) ?_; rw [xa0 _ _ _ (by rw [Say.len]; decide)]; rw [show (⟨x0, false, false⟩ : Say).cells.set 1 (Value.bool x1) = (⟨x0, x1, false⟩ : Say).cells from Say.s_snd (⟨x0, false, false⟩ : Say) (x1)]; refine xaj (vs := [Value.bool x2]) rfl (rfl) (rfl) (by rw [Say.len]; decide) ?_; rw [xa0 _ _ _ (by rw [Say.len]; decide)]; rw [show (⟨x0, x1, false⟩ : Say).cells.set 2 (Value.bool x2) = (⟨x0, x1, x2⟩ : Say).cells from Say.s_same (⟨x0, x1, false⟩ : Say) (x2)]
  rfl
theorem bd208_10  : Instr.fill (fun x => [(0, 1), (1, 1), (2, 1)].toArray[x]?) Say.z.cells.toArray [(0, Value.bool true), (1, Value.bool true), (2, Value.bool true)] = some ((⟨true, true, true⟩ : Say)).cells.toArray := by
  rw [show Say.z = (⟨false, false, false⟩ : Say) from rfl]; refine xaj (vs := [Value.bool true]) rfl (rfl) (rfl) (by rw [Say.len]; decide) ?_; rw [xa0 _ _ _ (by rw [Say.len]; decide)]; rw [show (⟨false, false, false⟩ : Say).cells.set 0 (Value.bool true) = (⟨true, false, false⟩ : Say).cells from Say.s_fst (⟨false, false, false⟩ : Say) (true)]; refine xaj (vs := [Value.bool true]) rfl (rfl) (rfl) (by rw [Say.len]; decide) ?_; rw [xa0 _ _ _ (by rw [Say.len]; decide)]; rw [show (⟨true, false, false⟩ : Say).cells.set 1 (Value.bool true) = (⟨true, true, false⟩ : Say).cells from Say.s_snd (⟨true, false, false⟩ : Say) (true)]; refine xaj (vs := [Value.bool true]) rfl (rfl) (rfl) (by rw [Say.len]; decide) ?_; rw [xa0 _ _ _ (by rw [Say.len]; decide)]
  rw [show (⟨true, true, false⟩ : Say).cells.set 2 (Value.bool true) = (⟨true, true, true⟩ : Say).cells from Say.s_same (⟨true, true, false⟩ : Say) (true)]; rfl
theorem bs39 : BS Tryz.prog 39 Clm.z.cells [(0, 1), (1, 1), (2, 1)] := BS.of Tryz.underlying39 (by kernel_rfl) (by kernel_rfl)
theorem xsa (x0 : Bool) (x2 : Sv) : Instr.fill (fun x => [(0, 1), (1, 1), (2, 1)].toArray[x]?) Clm.z.cells.toArray [(0, Value.bool x0), (2, x2.v)] = some ((⟨x0, Sv.nil, x2⟩ : Clm)).cells.toArray := by
  rw [show Clm.z = (⟨false, Sv.nil, Sv.nil⟩ : Clm) from rfl]; refine xaj (vs := [Value.bool x0]) rfl (rfl) (rfl) (by rw [Clm.len]; decide) ?_; rw [xa0 _ _ _ (by rw [Clm.len]; decide)]; rw [show (⟨false, Sv.nil, Sv.nil⟩ : Clm).cells.set 0 (Value.bool x0) = (⟨x0, Sv.nil, Sv.nil⟩ : Clm).cells from Clm.s_there (⟨false, Sv.nil, Sv.nil⟩ : Clm) (x0)]; refine xaj (vs := [x2.v]) rfl (rfl) (rfl) (by rw [Clm.len]; decide) ?_; rw [xa0 _ _ _ (by rw [Clm.len]; decide)]; rw [show (⟨x0, Sv.nil, Sv.nil⟩ : Clm).cells.set 2 (x2.v) = (⟨x0, Sv.nil, x2⟩ : Clm).cells from Clm.s_byt (⟨x0, Sv.nil, Sv.nil⟩ : Clm) (x2)]; rfl
theorem bs124 : BS Tryz.prog 124 Brv.z.cells [(0, 1), (1, 32), (33, 32), (65, 32)] := BS.of Tryz.underlying124 (by kernel_rfl) (by kernel_rfl)
theorem bd124_14 (x0 : Nat) : Instr.fill (fun x => [(0, 1), (1, 32), (33, 32), (65, 32)].toArray[x]?) Brv.z.cells.toArray [(0, Value.int .u8 (x0 : Int))] = some ((⟨x0, D32.z, D32.z, D32.z⟩ : Brv)).cells.toArray := by
  rw [show Brv.z = (⟨0, D32.z, D32.z, D32.z⟩ : Brv) from rfl]; refine xaj (vs := [Value.int .u8 (x0 : Int)]) rfl (rfl) (rfl) (by rw [Brv.len]; decide) ?_; rw [xa0 _ _ _ (by rw [Brv.len]; decide)]; rw [show (⟨0, D32.z, D32.z, D32.z⟩ : Brv).cells.set 0 (Value.int .u8 (x0 : Int)) = (⟨x0, D32.z, D32.z, D32.z⟩ : Brv).cells from Brv.s_kind (⟨0, D32.z, D32.z, D32.z⟩ : Brv) (x0)]; rfl
theorem bd124_15 (x3 : D32) : Instr.fill (fun x => [(0, 1), (1, 32), (33, 32), (65, 32)].toArray[x]?) Brv.z.cells.toArray [(0, Value.int .u8 3), (3, .agg x3.c.toArray)] = some ((⟨3, D32.z, D32.z, x3⟩ : Brv)).cells.toArray := by
  rw [show Brv.z = (⟨0, D32.z, D32.z, D32.z⟩ : Brv) from rfl]; refine xaj (vs := [Value.int .u8 3]) rfl (rfl) (rfl) (by rw [Brv.len]; decide) ?_; rw [xa0 _ _ _ (by rw [Brv.len]; decide)]; rw [show (⟨0, D32.z, D32.z, D32.z⟩ : Brv).cells.set 0 (Value.int .u8 3) = (⟨3, D32.z, D32.z, D32.z⟩ : Brv).cells from Brv.s_kind (⟨0, D32.z, D32.z, D32.z⟩ : Brv) (3)]; refine xaj (vs := x3.c) rfl (rfl) (D32.cl _) (by rw [Brv.len]; decide) ?_; rw [Brv.s_dig]; rfl
theorem bs44 : BS Tryz.prog 44 ([Value.slice none 0 0]) [(0, 1)] := BS.of Tryz.underlying44 (by kernel_rfl) (by kernel_rfl)
theorem bs199 : BS Tryz.prog 199 ([Value.slice none 0 0] ++ (D32.z.c ++ ([Value.slice none 0 0]))) [(0, 1), (1, 32), (33, 1)] := BS.of Tryz.underlying199 (by kernel_rfl) (by kernel_rfl)
theorem bd199_17 (x0 : Sv) (x1 : D32) (x2 : Sv) : Instr.fill (fun x => [(0, 1), (1, 32), (33, 1)].toArray[x]?) ([Value.slice none 0 0] ++ (D32.z.c ++ ([Value.slice none 0 0]))).toArray [(0, x0.v), (1, .agg x1.c.toArray), (2, x2.v)] = some (([x0.v] ++ (x1.c ++ ([x2.v])))).toArray := by
  refine xaj (vs := [x0.v]) rfl (rfl) (rfl) (by simp only [qp, qr, qs, D32.cl, Brv.len, Cla.len, Clm.len, Nd.len, Nod.len, Par.len, Plc.len, Prv.len, Sai.len, Say.len, Slo.len, Spv.len, Str.len]; decide) ?_
  have e0 : splice ([Value.slice none 0 0] ++ (D32.z.c ++ ([Value.slice none 0 0]))) 0 [x0.v] = ([x0.v] ++ (D32.z.c ++ ([Value.slice none 0 0]))) := by
    have h := xa5 ([] : List Value) [Value.slice none 0 0] (D32.z.c ++ ([Value.slice none 0 0])) [x0.v] (by first | rfl | (simp only [D32.cl, Brv.len, Cla.len, Clm.len, Nd.len, Nod.len, Par.len, Plc.len, Prv.len, Sai.len, Say.len, Slo.len, Spv.len, Str.len, qr, qs])); have hl : (([] : List Value) : List Value).length = 0 := by first | rfl | (simp only [qp, qr, qs, D32.cl, Brv.len, Cla.len, Clm.len, Nd.len, Nod.len, Par.len, Plc.len, Prv.len, Sai.len, Say.len, Slo.len, Spv.len, Str.len])
    rw [hl] at h; simpa only [List.append_assoc, List.nil_append, List.append_nil, List.cons_append] using h
  rw [e0]; refine xaj (vs := x1.c) rfl (rfl) (D32.cl _) (by simp only [qp, qr, qs, D32.cl, Brv.len, Cla.len, Clm.len, Nd.len, Nod.len, Par.len, Plc.len, Prv.len, Sai.len, Say.len, Slo.len, Spv.len, Str.len]; decide) ?_
  have e1 : splice ([x0.v] ++ (D32.z.c ++ ([Value.slice none 0 0]))) 1 x1.c = ([x0.v] ++ (x1.c ++ ([Value.slice none 0 0]))) := by
    have h := xa5 ([x0.v]) D32.z.c ([Value.slice none 0 0]) x1.c (by first | rfl | (simp only [D32.cl, Brv.len, Cla.len, Clm.len, Nd.len, Nod.len, Par.len, Plc.len, Prv.len, Sai.len, Say.len, Slo.len, Spv.len, Str.len, qr, qs])); have hl : (([x0.v]) : List Value).length = 1 := by first | rfl | (simp only [qp, qr, qs, D32.cl, Brv.len, Cla.len, Clm.len, Nd.len, Nod.len, Par.len, Plc.len, Prv.len, Sai.len, Say.len, Slo.len, Spv.len, Str.len])
    rw [hl] at h; simpa only [List.append_assoc, List.nil_append, List.append_nil, List.cons_append] using h
  rw [e1]; refine xaj (vs := [x2.v]) rfl (rfl) (rfl) (by simp only [qp, qr, qs, D32.cl, Brv.len, Cla.len, Clm.len, Nd.len, Nod.len, Par.len, Plc.len, Prv.len, Sai.len, Say.len, Slo.len, Spv.len, Str.len]; decide) ?_
  have e2 : splice ([x0.v] ++ (x1.c ++ ([Value.slice none 0 0]))) 33 [x2.v] = ([x0.v] ++ (x1.c ++ ([x2.v]))) := by
    have h := xa5 ([x0.v] ++ (x1.c)) [Value.slice none 0 0] ([] : List Value) [x2.v] (by first | rfl | (simp only [D32.cl, Brv.len, Cla.len, Clm.len, Nd.len, Nod.len, Par.len, Plc.len, Prv.len, Sai.len, Say.len, Slo.len, Spv.len, Str.len, qr, qs])); have hl : (([x0.v] ++ (x1.c)) : List Value).length = 33 := by first | rfl | (simp only [qp, qr, qs, D32.cl, Brv.len, Cla.len, Clm.len, Nd.len, Nod.len, Par.len, Plc.len, Prv.len, Sai.len, Say.len, Slo.len, Spv.len, Str.len])
    rw [hl] at h; simpa only [List.append_assoc, List.nil_append, List.append_nil, List.cons_append] using h
  rw [e2]; rfl
theorem bs136 : BS Tryz.prog 136 Str.z.cells [(0, 32), (32, 32)] := BS.of Tryz.underlying136 (by kernel_rfl) (by kernel_rfl)
theorem bd136_18 (x0 : D32) (x1 : D32) : Instr.fill (fun x => [(0, 32), (32, 32)].toArray[x]?) Str.z.cells.toArray [(0, .agg x0.c.toArray), (1, .agg x1.c.toArray)] = some ((⟨x0, x1⟩ : Str)).cells.toArray := by
  rw [show Str.z = (⟨D32.z, D32.z⟩ : Str) from rfl]; refine xaj (vs := x0.c) rfl (rfl) (D32.cl _) (by rw [Str.len]; decide) ?_; rw [Str.s_fr]; refine xaj (vs := x1.c) rfl (rfl) (D32.cl _) (by rw [Str.len]; decide) ?_; rw [Str.s_til]; rfl
theorem bs138 : BS Tryz.prog 138 (Str.z.cells ++ ([Value.slice none 0 0] ++ (D32.z.c ++ ([Value.slice none 0 0] ++ ([Value.slice none 0 0] ++ (D32.z.c ++ (Prv.z.cells))))))) [(0, 64), (64, 1), (65, 32), (97, 1), (98, 1), (99, 32), (131, 130)] := BS.of Tryz.underlying138 (by kernel_rfl) (by kernel_rfl)
theorem bd138_19 (x0 : Str) (x1 : Sv) (x2 : D32) (x5 : D32) : Instr.fill (fun x => [(0, 64), (64, 1), (65, 32), (97, 1), (98, 1), (99, 32), (131, 130)].toArray[x]?) (Str.z.cells ++ ([Value.slice none 0 0] ++ (D32.z.c ++ ([Value.slice none 0 0] ++ ([Value.slice none 0 0] ++ (D32.z.c ++ (Prv.z.cells))))))).toArray [(0, .agg x0.cells.toArray), (1, x1.v), (2, .agg x2.c.toArray), (5, .agg x5.c.toArray)] = some ((x0.cells ++ ([x1.v] ++ (x2.c ++ ([Value.slice none 0 0] ++ ([Value.slice none 0 0] ++ (x5.c ++ (Prv.z.cells)))))))).toArray := by
  refine xaj (vs := x0.cells) rfl (rfl) (Str.len _) (by simp only [qp, qr, qs, D32.cl, Brv.len, Cla.len, Clm.len, Nd.len, Nod.len, Par.len, Plc.len, Prv.len, Sai.len, Say.len, Slo.len, Spv.len, Str.len]; decide) ?_
  have e0 : splice (Str.z.cells ++ ([Value.slice none 0 0] ++ (D32.z.c ++ ([Value.slice none 0 0] ++ ([Value.slice none 0 0] ++ (D32.z.c ++ (Prv.z.cells))))))) 0 x0.cells = (x0.cells ++ ([Value.slice none 0 0] ++ (D32.z.c ++ ([Value.slice none 0 0] ++ ([Value.slice none 0 0] ++ (D32.z.c ++ (Prv.z.cells))))))) := by
    have h := xa5 ([] : List Value) Str.z.cells ([Value.slice none 0 0] ++ (D32.z.c ++ ([Value.slice none 0 0] ++ ([Value.slice none 0 0] ++ (D32.z.c ++ (Prv.z.cells)))))) x0.cells (by first | rfl | (simp only [D32.cl, Brv.len, Cla.len, Clm.len, Nd.len, Nod.len, Par.len, Plc.len, Prv.len, Sai.len, Say.len, Slo.len, Spv.len, Str.len, qr, qs])); have hl : (([] : List Value) : List Value).length = 0 := by first | rfl | (simp only [qp, qr, qs, D32.cl, Brv.len, Cla.len, Clm.len, Nd.len, Nod.len, Par.len, Plc.len, Prv.len, Sai.len, Say.len, Slo.len, Spv.len, Str.len])
    rw [hl] at h; simpa only [List.append_assoc, List.nil_append, List.append_nil, List.cons_append] using h
  rw [e0]; refine xaj (vs := [x1.v]) rfl (rfl) (rfl) (by simp only [qp, qr, qs, D32.cl, Brv.len, Cla.len, Clm.len, Nd.len, Nod.len, Par.len, Plc.len, Prv.len, Sai.len, Say.len, Slo.len, Spv.len, Str.len]; decide) ?_
  have e1 : splice (x0.cells ++ ([Value.slice none 0 0] ++ (D32.z.c ++ ([Value.slice none 0 0] ++ ([Value.slice none 0 0] ++ (D32.z.c ++ (Prv.z.cells))))))) 64 [x1.v] = (x0.cells ++ ([x1.v] ++ (D32.z.c ++ ([Value.slice none 0 0] ++ ([Value.slice none 0 0] ++ (D32.z.c ++ (Prv.z.cells))))))) := by
    have h := xa5 (x0.cells) [Value.slice none 0 0] (D32.z.c ++ ([Value.slice none 0 0] ++ ([Value.slice none 0 0] ++ (D32.z.c ++ (Prv.z.cells))))) [x1.v] (by first | rfl | (simp only [D32.cl, Brv.len, Cla.len, Clm.len, Nd.len, Nod.len, Par.len, Plc.len, Prv.len, Sai.len, Say.len, Slo.len, Spv.len, Str.len, qr, qs])); have hl : ((x0.cells) : List Value).length = 64 := by first | rfl | (simp only [qp, qr, qs, D32.cl, Brv.len, Cla.len, Clm.len, Nd.len, Nod.len, Par.len, Plc.len, Prv.len, Sai.len, Say.len, Slo.len, Spv.len, Str.len])
    rw [hl] at h; simpa only [List.append_assoc, List.nil_append, List.append_nil, List.cons_append] using h
  rw [e1]; refine xaj (vs := x2.c) rfl (rfl) (D32.cl _) (by simp only [qp, qr, qs, D32.cl, Brv.len, Cla.len, Clm.len, Nd.len, Nod.len, Par.len, Plc.len, Prv.len, Sai.len, Say.len, Slo.len, Spv.len, Str.len]; decide) ?_
  have e2 : splice (x0.cells ++ ([x1.v] ++ (D32.z.c ++ ([Value.slice none 0 0] ++ ([Value.slice none 0 0] ++ (D32.z.c ++ (Prv.z.cells))))))) 65 x2.c = (x0.cells ++ ([x1.v] ++ (x2.c ++ ([Value.slice none 0 0] ++ ([Value.slice none 0 0] ++ (D32.z.c ++ (Prv.z.cells))))))) := by
    have h := xa5 (x0.cells ++ ([x1.v])) D32.z.c ([Value.slice none 0 0] ++ ([Value.slice none 0 0] ++ (D32.z.c ++ (Prv.z.cells)))) x2.c (by first | rfl | (simp only [D32.cl, Brv.len, Cla.len, Clm.len, Nd.len, Nod.len, Par.len, Plc.len, Prv.len, Sai.len, Say.len, Slo.len, Spv.len, Str.len, qr, qs])); have hl : ((x0.cells ++ ([x1.v])) : List Value).length = 65 := by first | rfl | (simp only [qp, qr, qs, D32.cl, Brv.len, Cla.len, Clm.len, Nd.len, Nod.len, Par.len, Plc.len, Prv.len, Sai.len, Say.len, Slo.len, Spv.len, Str.len])
    rw [hl] at h; simpa only [List.append_assoc, List.nil_append, List.append_nil, List.cons_append] using h
  rw [e2]; refine xaj (vs := x5.c) rfl (rfl) (D32.cl _) (by simp only [qp, qr, qs, D32.cl, Brv.len, Cla.len, Clm.len, Nd.len, Nod.len, Par.len, Plc.len, Prv.len, Sai.len, Say.len, Slo.len, Spv.len, Str.len]; decide) ?_
  have e5 : splice (x0.cells ++ ([x1.v] ++ (x2.c ++ ([Value.slice none 0 0] ++ ([Value.slice none 0 0] ++ (D32.z.c ++ (Prv.z.cells))))))) 99 x5.c = (x0.cells ++ ([x1.v] ++ (x2.c ++ ([Value.slice none 0 0] ++ ([Value.slice none 0 0] ++ (x5.c ++ (Prv.z.cells))))))) := by
    have h := xa5 (x0.cells ++ ([x1.v] ++ (x2.c ++ ([Value.slice none 0 0] ++ ([Value.slice none 0 0]))))) D32.z.c (Prv.z.cells) x5.c (by first | rfl | (simp only [D32.cl, Brv.len, Cla.len, Clm.len, Nd.len, Nod.len, Par.len, Plc.len, Prv.len, Sai.len, Say.len, Slo.len, Spv.len, Str.len, qr, qs])); have hl : ((x0.cells ++ ([x1.v] ++ (x2.c ++ ([Value.slice none 0 0] ++ ([Value.slice none 0 0]))))) : List Value).length = 99 := by first | rfl | (simp only [qp, qr, qs, D32.cl, Brv.len, Cla.len, Clm.len, Nd.len, Nod.len, Par.len, Plc.len, Prv.len, Sai.len, Say.len, Slo.len, Spv.len, Str.len])
    rw [hl] at h; simpa only [List.append_assoc, List.nil_append, List.append_nil, List.cons_append] using h
  rw [e5]; rfl
theorem bs61 : BS Tryz.prog 61 Par.z.cells [(0, 32), (32, 1)] := BS.of Tryz.underlying61 (by kernel_rfl) (by kernel_rfl)
theorem bd61_20 (x0 : D32) (x1 : Sv) : Instr.fill (fun x => [(0, 32), (32, 1)].toArray[x]?) Par.z.cells.toArray [(0, .agg x0.c.toArray), (1, x1.v)] = some ((⟨x0, x1⟩ : Par)).cells.toArray := by
  rw [show Par.z = (⟨D32.z, Sv.nil⟩ : Par) from rfl]; refine xaj (vs := x0.c) rfl (rfl) (D32.cl _) (by rw [Par.len]; decide) ?_; rw [Par.s_key]; refine xaj (vs := [x1.v]) rfl (rfl) (rfl) (by rw [Par.len]; decide) ?_; rw [xa0 _ _ _ (by rw [Par.len]; decide)]; rw [show (⟨x0, Sv.nil⟩ : Par).cells.set 32 (x1.v) = (⟨x0, x1⟩ : Par).cells from Par.s_val (⟨x0, Sv.nil⟩ : Par) (x1)]; rfl
theorem bd44_21 (x0 : Sv) : Instr.fill (fun x => [(0, 1)].toArray[x]?) ([Value.slice none 0 0]).toArray [(0, x0.v)] = some (([x0.v])).toArray := by
  refine xaj (vs := [x0.v]) rfl (rfl) (rfl) (by simp only [qp, qr, qs, D32.cl, Brv.len, Cla.len, Clm.len, Nd.len, Nod.len, Par.len, Plc.len, Prv.len, Sai.len, Say.len, Slo.len, Spv.len, Str.len]; decide) ?_
  have e0 : splice ([Value.slice none 0 0]) 0 [x0.v] = ([x0.v]) := by
    have h := xa5 ([] : List Value) [Value.slice none 0 0] ([] : List Value) [x0.v] (by first | rfl | (simp only [D32.cl, Brv.len, Cla.len, Clm.len, Nd.len, Nod.len, Par.len, Plc.len, Prv.len, Sai.len, Say.len, Slo.len, Spv.len, Str.len, qr, qs])); have hl : (([] : List Value) : List Value).length = 0 := by first | rfl | (simp only [qp, qr, qs, D32.cl, Brv.len, Cla.len, Clm.len, Nd.len, Nod.len, Par.len, Plc.len, Prv.len, Sai.len, Say.len, Slo.len, Spv.len, Str.len])
    rw [hl] at h; simpa only [List.append_assoc, List.nil_append, List.append_nil, List.cons_append] using h
  rw [e0]; rfl
theorem bs52 : BS Tryz.prog 52 Spv.z.cells [(0, 1), (1, 1)] := BS.of Tryz.underlying52 (by kernel_rfl) (by kernel_rfl)
theorem bs163 : BS Tryz.prog 163 ([Value.pointer none]) [(0, 1)] := BS.of Tryz.underlying163 (by kernel_rfl) (by kernel_rfl)
theorem bd163_23 (x0 : Value) (h0 : x0.oneCell' = true) : Instr.fill (fun x => [(0, 1)].toArray[x]?) ([Value.pointer none]).toArray [(0, x0)] = some (([x0])).toArray := by
  refine xaj (vs := [x0]) rfl (xeb _ h0) (rfl) (by simp only [qp, qr, qs, D32.cl, Brv.len, Cla.len, Clm.len, Nd.len, Nod.len, Par.len, Plc.len, Prv.len, Sai.len, Say.len, Slo.len, Spv.len, Str.len]; decide) ?_
  have e0 : splice ([Value.pointer none]) 0 [x0] = ([x0]) := by
    refine X33 ?_; intro h; have hl : (([] : List Value) : List Value).length = 0 := by first | rfl | (simp only [qp, qr, qs, D32.cl, Brv.len, Cla.len, Clm.len, Nd.len, Nod.len, Par.len, Plc.len, Prv.len, Sai.len, Say.len, Slo.len, Spv.len, Str.len])
    rw [hl] at h; simpa only [List.append_assoc, List.nil_append, List.append_nil, List.cons_append] using h
  rw [e0]; rfl
theorem bs166 : BS Tryz.prog 166 ([Value.pointer none] ++ ([Value.pointer none] ++ ([Value.int .i64 0]))) [(0, 1), (1, 1), (2, 1)] := BS.of Tryz.underlying166 (by kernel_rfl) (by kernel_rfl)
theorem bd166_24 (x0 : Value) (x1 : Value) (h1 : x1.oneCell' = true) : Instr.fill (fun x => [(0, 1), (1, 1), (2, 1)].toArray[x]?) ([Value.pointer none] ++ ([Value.pointer none] ++ ([Value.int .i64 0]))).toArray [(0, .agg [x0].toArray), (1, x1), (2, Value.int .i64 0)] = some (([x0] ++ ([x1] ++ ([Value.int .i64 0])))).toArray := by
  refine xaj (vs := [x0]) rfl (rfl) (rfl) (by simp only [qp, qr, qs, D32.cl, Brv.len, Cla.len, Clm.len, Nd.len, Nod.len, Par.len, Plc.len, Prv.len, Sai.len, Say.len, Slo.len, Spv.len, Str.len]; decide) ?_
  have e0 : splice ([Value.pointer none] ++ ([Value.pointer none] ++ ([Value.int .i64 0]))) 0 [x0] = ([x0] ++ ([Value.pointer none] ++ ([Value.int .i64 0]))) := by
    have h := xa5 ([] : List Value) [Value.pointer none] ([Value.pointer none] ++ ([Value.int .i64 0])) [x0] (by first | rfl | (simp only [D32.cl, Brv.len, Cla.len, Clm.len, Nd.len, Nod.len, Par.len, Plc.len, Prv.len, Sai.len, Say.len, Slo.len, Spv.len, Str.len, qr, qs])); have hl : (([] : List Value) : List Value).length = 0 := by first | rfl | (simp only [qp, qr, qs, D32.cl, Brv.len, Cla.len, Clm.len, Nd.len, Nod.len, Par.len, Plc.len, Prv.len, Sai.len, Say.len, Slo.len, Spv.len, Str.len])
    rw [hl] at h; simpa only [List.append_assoc, List.nil_append, List.append_nil, List.cons_append] using h
  rw [e0]; refine xaj (vs := [x1]) rfl (xeb _ h1) (rfl) (by simp only [qp, qr, qs, D32.cl, Brv.len, Cla.len, Clm.len, Nd.len, Nod.len, Par.len, Plc.len, Prv.len, Sai.len, Say.len, Slo.len, Spv.len, Str.len]; decide) ?_
  have e1 : splice ([x0] ++ ([Value.pointer none] ++ ([Value.int .i64 0]))) 1 [x1] = ([x0] ++ ([x1] ++ ([Value.int .i64 0]))) := by
    have h := xa5 ([x0]) [Value.pointer none] ([Value.int .i64 0]) [x1] (by first | rfl | (simp only [D32.cl, Brv.len, Cla.len, Clm.len, Nd.len, Nod.len, Par.len, Plc.len, Prv.len, Sai.len, Say.len, Slo.len, Spv.len, Str.len, qr, qs])); have hl : (([x0]) : List Value).length = 1 := by first | rfl | (simp only [qp, qr, qs, D32.cl, Brv.len, Cla.len, Clm.len, Nd.len, Nod.len, Par.len, Plc.len, Prv.len, Sai.len, Say.len, Slo.len, Spv.len, Str.len])
    rw [hl] at h; simpa only [List.append_assoc, List.nil_append, List.append_nil, List.cons_append] using h
  rw [e1]; refine xaj (vs := [Value.int .i64 0]) rfl (rfl) (rfl) (by simp only [qp, qr, qs, D32.cl, Brv.len, Cla.len, Clm.len, Nd.len, Nod.len, Par.len, Plc.len, Prv.len, Sai.len, Say.len, Slo.len, Spv.len, Str.len]; decide) ?_
  have e2 : splice ([x0] ++ ([x1] ++ ([Value.int .i64 0]))) 2 [Value.int .i64 0] = ([x0] ++ ([x1] ++ ([Value.int .i64 0]))) := by
    have h := xa5 ([x0] ++ ([x1])) [Value.int .i64 0] ([] : List Value) [Value.int .i64 0] (by first | rfl | (simp only [D32.cl, Brv.len, Cla.len, Clm.len, Nd.len, Nod.len, Par.len, Plc.len, Prv.len, Sai.len, Say.len, Slo.len, Spv.len, Str.len, qr, qs])); have hl : (([x0] ++ ([x1])) : List Value).length = 2 := by first | rfl | (simp only [qp, qr, qs, D32.cl, Brv.len, Cla.len, Clm.len, Nd.len, Nod.len, Par.len, Plc.len, Prv.len, Sai.len, Say.len, Slo.len, Spv.len, Str.len])
    rw [hl] at h; simpa only [List.append_assoc, List.nil_append, List.append_nil, List.cons_append] using h
  rw [e2]; rfl
theorem bs256 : BS Tryz.prog 256 ([Value.pointer none]) [(0, 1)] := BS.of Tryz.underlying256 (by kernel_rfl) (by kernel_rfl)
theorem bd256_25 (x0 : Value) (h0 : x0.oneCell' = true) : Instr.fill (fun x => [(0, 1)].toArray[x]?) ([Value.pointer none]).toArray [(0, x0)] = some (([x0])).toArray := by
  refine xaj (vs := [x0]) rfl (xeb _ h0) (rfl) (by simp only [qp, qr, qs, D32.cl, Brv.len, Cla.len, Clm.len, Nd.len, Nod.len, Par.len, Plc.len, Prv.len, Sai.len, Say.len, Slo.len, Spv.len, Str.len]; decide) ?_
  have e0 : splice ([Value.pointer none]) 0 [x0] = ([x0]) := by
    refine X33 ?_; intro h; have hl : (([] : List Value) : List Value).length = 0 := by first | rfl | (simp only [qp, qr, qs, D32.cl, Brv.len, Cla.len, Clm.len, Nd.len, Nod.len, Par.len, Plc.len, Prv.len, Sai.len, Say.len, Slo.len, Spv.len, Str.len])
    rw [hl] at h; simpa only [List.append_assoc, List.nil_append, List.append_nil, List.cons_append] using h
  rw [e0]; rfl
theorem bs230 : BS Tryz.prog 230 Nd.z.cells [(0, 32), (32, 1), (33, 1), (34, 32), (66, 1), (67, 32), (99, 1), (100, 1), (101, 1), (102, 1)] := BS.of Tryz.underlying230 (by kernel_rfl) (by kernel_rfl)
theorem bs228 : BS Tryz.prog 228 (D32.z.c) [(0, 32)] := BS.of Tryz.underlying228 (by kernel_rfl) (by kernel_rfl)
theorem bd228_27 (x0 : D32) : Instr.fill (fun x => [(0, 32)].toArray[x]?) (D32.z.c).toArray [(0, .agg x0.c.toArray)] = some ((x0.c)).toArray := by
  refine xaj (vs := x0.c) rfl (rfl) (D32.cl _) (by simp only [qp, qr, qs, D32.cl, Brv.len, Cla.len, Clm.len, Nd.len, Nod.len, Par.len, Plc.len, Prv.len, Sai.len, Say.len, Slo.len, Spv.len, Str.len]; decide) ?_
  have e0 : splice (D32.z.c) 0 x0.c = (x0.c) := by
    have h := xa5 ([] : List Value) D32.z.c ([] : List Value) x0.c (by first | rfl | (simp only [D32.cl, Brv.len, Cla.len, Clm.len, Nd.len, Nod.len, Par.len, Plc.len, Prv.len, Sai.len, Say.len, Slo.len, Spv.len, Str.len, qr, qs])); have hl : (([] : List Value) : List Value).length = 0 := by first | rfl | (simp only [qp, qr, qs, D32.cl, Brv.len, Cla.len, Clm.len, Nd.len, Nod.len, Par.len, Plc.len, Prv.len, Sai.len, Say.len, Slo.len, Spv.len, Str.len])
    rw [hl] at h; simpa only [List.append_assoc, List.nil_append, List.append_nil, List.cons_append] using h
  rw [e0]; rfl
theorem bd230_28 (x0 : D32) (x3 : D32) (x4 : Sv) (x5 : D32) : Instr.fill (fun x => [(0, 32), (32, 1), (33, 1), (34, 32), (66, 1), (67, 32), (99, 1), (100, 1), (101, 1), (102, 1)].toArray[x]?) Nd.z.cells.toArray [(0, .agg x0.c.toArray), (1, Value.int .u8 1), (2, Value.int .i64 (-1)), (3, .agg x3.c.toArray), (4, x4.v), (5, .agg x5.c.toArray), (8, Value.int .i64 1), (9, Value.int .i64 1)] = some ((⟨x0, 1, (-1), x3, x4, x5, 0, 0, 1, 1⟩ : Nd)).cells.toArray := by
  rw [show Nd.z = (⟨D32.z, 0, 0, D32.z, Sv.nil, D32.z, 0, 0, 0, 0⟩ : Nd) from rfl]; refine xaj (vs := x0.c) rfl (rfl) (D32.cl _) (by rw [Nd.len]; decide) ?_; rw [Nd.s_dig]; refine xaj (vs := [Value.int .u8 1]) rfl (rfl) (rfl) (by rw [Nd.len]; decide) ?_; rw [xa0 _ _ _ (by rw [Nd.len]; decide)]; rw [show (⟨x0, 0, 0, D32.z, Sv.nil, D32.z, 0, 0, 0, 0⟩ : Nd).cells.set 32 (Value.int .u8 1) = (⟨x0, 1, 0, D32.z, Sv.nil, D32.z, 0, 0, 0, 0⟩ : Nd).cells from Nd.s_kind (⟨x0, 0, 0, D32.z, Sv.nil, D32.z, 0, 0, 0, 0⟩ : Nd) (1)]; refine xaj (vs := [Value.int .i64 (-1)]) rfl (rfl) (rfl) (by rw [Nd.len]; decide) ?_; rw [xa0 _ _ _ (by rw [Nd.len]; decide)]
  rw [show (⟨x0, 1, 0, D32.z, Sv.nil, D32.z, 0, 0, 0, 0⟩ : Nd).cells.set 33 (Value.int .i64 (-1)) = (⟨x0, 1, (-1), D32.z, Sv.nil, D32.z, 0, 0, 0, 0⟩ : Nd).cells from Nd.s_depth (⟨x0, 1, 0, D32.z, Sv.nil, D32.z, 0, 0, 0, 0⟩ : Nd) ((-1))]; refine xaj (vs := x3.c) rfl (rfl) (D32.cl _) (by rw [Nd.len]; decide) ?_; rw [Nd.s_key]; refine xaj (vs := [x4.v]) rfl (rfl) (rfl) (by rw [Nd.len]; decide) ?_; rw [xa0 _ _ _ (by rw [Nd.len]; decide)]; rw [show (⟨x0, 1, (-1), x3, Sv.nil, D32.z, 0, 0, 0, 0⟩ : Nd).cells.set 66 (x4.v) = (⟨x0, 1, (-1), x3, x4, D32.z, 0, 0, 0, 0⟩ : Nd).cells from Nd.s_vs (⟨x0, 1, (-1), x3, Sv.nil, D32.z, 0, 0, 0, 0⟩ : Nd) (x4)]; refine xaj (vs := x5.c) rfl (rfl) (D32.cl _) (by rw [Nd.len]; decide) ?_; rw [Nd.s_hash]; refine xaj (vs := [Value.int .i64 1]) rfl (rfl) (rfl) (by rw [Nd.len]; decide) ?_; rw [xa0 _ _ _ (by rw [Nd.len]; decide)]
  rw [show (⟨x0, 1, (-1), x3, x4, x5, 0, 0, 0, 0⟩ : Nd).cells.set 101 (Value.int .i64 1) = (⟨x0, 1, (-1), x3, x4, x5, 0, 0, 1, 0⟩ : Nd).cells from Nd.s_size (⟨x0, 1, (-1), x3, x4, x5, 0, 0, 0, 0⟩ : Nd) (1)]; refine xaj (vs := [Value.int .i64 1]) rfl (rfl) (rfl) (by rw [Nd.len]; decide) ?_; rw [xa0 _ _ _ (by rw [Nd.len]; decide)]; rw [show (⟨x0, 1, (-1), x3, x4, x5, 0, 0, 1, 0⟩ : Nd).cells.set 102 (Value.int .i64 1) = (⟨x0, 1, (-1), x3, x4, x5, 0, 0, 1, 1⟩ : Nd).cells from Nd.s_held (⟨x0, 1, (-1), x3, x4, x5, 0, 0, 1, 0⟩ : Nd) (1)]; rfl
theorem bs353 : BS Tryz.prog 353 ([Value.int .i64 0] ++ ([Value.pointer none])) [(0, 1), (1, 1)] := BS.of Tryz.underlying353 (by kernel_rfl) (by kernel_rfl)
theorem xon (x0 : Int) (x1 : Value) (h1 : x1.oneCell' = true) : Instr.fill (fun x => [(0, 1), (1, 1)].toArray[x]?) ([Value.int .i64 0] ++ ([Value.pointer none])).toArray [(0, Value.int .i64 x0), (1, x1)] = some (([Value.int .i64 x0] ++ ([x1]))).toArray := by
  refine xaj (vs := [Value.int .i64 x0]) rfl (rfl) (rfl) (by simp only [qp, qr, qs, D32.cl, Brv.len, Cla.len, Clm.len, Nd.len, Nod.len, Par.len, Plc.len, Prv.len, Sai.len, Say.len, Slo.len, Spv.len, Str.len]; decide) ?_
  have e0 : splice ([Value.int .i64 0] ++ ([Value.pointer none])) 0 [Value.int .i64 x0] = ([Value.int .i64 x0] ++ ([Value.pointer none])) := by
    have h := xa5 ([] : List Value) [Value.int .i64 0] ([Value.pointer none]) [Value.int .i64 x0] (by first | rfl | (simp only [D32.cl, Brv.len, Cla.len, Clm.len, Nd.len, Nod.len, Par.len, Plc.len, Prv.len, Sai.len, Say.len, Slo.len, Spv.len, Str.len, qr, qs])); have hl : (([] : List Value) : List Value).length = 0 := by first | rfl | (simp only [qp, qr, qs, D32.cl, Brv.len, Cla.len, Clm.len, Nd.len, Nod.len, Par.len, Plc.len, Prv.len, Sai.len, Say.len, Slo.len, Spv.len, Str.len])
    rw [hl] at h; simpa only [List.append_assoc, List.nil_append, List.append_nil, List.cons_append] using h
  rw [e0]; refine xaj (vs := [x1]) rfl (xeb _ h1) (rfl) (by simp only [qp, qr, qs, D32.cl, Brv.len, Cla.len, Clm.len, Nd.len, Nod.len, Par.len, Plc.len, Prv.len, Sai.len, Say.len, Slo.len, Spv.len, Str.len]; decide) ?_
  have e1 : splice ([Value.int .i64 x0] ++ ([Value.pointer none])) 1 [x1] = ([Value.int .i64 x0] ++ ([x1])) := by
    have h := xa5 ([Value.int .i64 x0]) [Value.pointer none] ([] : List Value) [x1] (by first | rfl | (simp only [D32.cl, Brv.len, Cla.len, Clm.len, Nd.len, Nod.len, Par.len, Plc.len, Prv.len, Sai.len, Say.len, Slo.len, Spv.len, Str.len, qr, qs])); have hl : (([Value.int .i64 x0]) : List Value).length = 1 := by first | rfl | (simp only [qp, qr, qs, D32.cl, Brv.len, Cla.len, Clm.len, Nd.len, Nod.len, Par.len, Plc.len, Prv.len, Sai.len, Say.len, Slo.len, Spv.len, Str.len])
    rw [hl] at h; simpa only [List.append_assoc, List.nil_append, List.append_nil, List.cons_append] using h
  rw [e1]; rfl
theorem bd230_30 (x0 : D32) (x2 : Int) (x3 : D32) (x6 : Int) (x7 : Int) (x8 : Int) : Instr.fill (fun x => [(0, 32), (32, 1), (33, 1), (34, 32), (66, 1), (67, 32), (99, 1), (100, 1), (101, 1), (102, 1)].toArray[x]?) Nd.z.cells.toArray [(0, .agg x0.c.toArray), (1, Value.int .u8 2), (2, Value.int .i64 x2), (3, .agg x3.c.toArray), (6, Value.int .i64 x6), (7, Value.int .i64 x7), (8, Value.int .i64 x8), (9, Value.int .i64 1)] = some ((⟨x0, 2, x2, x3, Sv.nil, D32.z, x6, x7, x8, 1⟩ : Nd)).cells.toArray := by
  rw [show Nd.z = (⟨D32.z, 0, 0, D32.z, Sv.nil, D32.z, 0, 0, 0, 0⟩ : Nd) from rfl]; refine xaj (vs := x0.c) rfl (rfl) (D32.cl _) (by rw [Nd.len]; decide) ?_; rw [Nd.s_dig]; refine xaj (vs := [Value.int .u8 2]) rfl (rfl) (rfl) (by rw [Nd.len]; decide) ?_; rw [xa0 _ _ _ (by rw [Nd.len]; decide)]; rw [show (⟨x0, 0, 0, D32.z, Sv.nil, D32.z, 0, 0, 0, 0⟩ : Nd).cells.set 32 (Value.int .u8 2) = (⟨x0, 2, 0, D32.z, Sv.nil, D32.z, 0, 0, 0, 0⟩ : Nd).cells from Nd.s_kind (⟨x0, 0, 0, D32.z, Sv.nil, D32.z, 0, 0, 0, 0⟩ : Nd) (2)]; refine xaj (vs := [Value.int .i64 x2]) rfl (rfl) (rfl) (by rw [Nd.len]; decide) ?_; rw [xa0 _ _ _ (by rw [Nd.len]; decide)]
  rw [show (⟨x0, 2, 0, D32.z, Sv.nil, D32.z, 0, 0, 0, 0⟩ : Nd).cells.set 33 (Value.int .i64 x2) = (⟨x0, 2, x2, D32.z, Sv.nil, D32.z, 0, 0, 0, 0⟩ : Nd).cells from Nd.s_depth (⟨x0, 2, 0, D32.z, Sv.nil, D32.z, 0, 0, 0, 0⟩ : Nd) (x2)]; refine xaj (vs := x3.c) rfl (rfl) (D32.cl _) (by rw [Nd.len]; decide) ?_; rw [Nd.s_key]; refine xaj (vs := [Value.int .i64 x6]) rfl (rfl) (rfl) (by rw [Nd.len]; decide) ?_; rw [xa0 _ _ _ (by rw [Nd.len]; decide)]; rw [show (⟨x0, 2, x2, x3, Sv.nil, D32.z, 0, 0, 0, 0⟩ : Nd).cells.set 99 (Value.int .i64 x6) = (⟨x0, 2, x2, x3, Sv.nil, D32.z, x6, 0, 0, 0⟩ : Nd).cells from Nd.s_left (⟨x0, 2, x2, x3, Sv.nil, D32.z, 0, 0, 0, 0⟩ : Nd) (x6)]; refine xaj (vs := [Value.int .i64 x7]) rfl (rfl) (rfl) (by rw [Nd.len]; decide) ?_; rw [xa0 _ _ _ (by rw [Nd.len]; decide)]
  rw [show (⟨x0, 2, x2, x3, Sv.nil, D32.z, x6, 0, 0, 0⟩ : Nd).cells.set 100 (Value.int .i64 x7) = (⟨x0, 2, x2, x3, Sv.nil, D32.z, x6, x7, 0, 0⟩ : Nd).cells from Nd.s_right (⟨x0, 2, x2, x3, Sv.nil, D32.z, x6, 0, 0, 0⟩ : Nd) (x7)]; refine xaj (vs := [Value.int .i64 x8]) rfl (rfl) (rfl) (by rw [Nd.len]; decide) ?_; rw [xa0 _ _ _ (by rw [Nd.len]; decide)]; rw [show (⟨x0, 2, x2, x3, Sv.nil, D32.z, x6, x7, 0, 0⟩ : Nd).cells.set 101 (Value.int .i64 x8) = (⟨x0, 2, x2, x3, Sv.nil, D32.z, x6, x7, x8, 0⟩ : Nd).cells from Nd.s_size (⟨x0, 2, x2, x3, Sv.nil, D32.z, x6, x7, 0, 0⟩ : Nd) (x8)]; refine xaj (vs := [Value.int .i64 1]) rfl (rfl) (rfl) (by rw [Nd.len]; decide) ?_; rw [xa0 _ _ _ (by rw [Nd.len]; decide)]
  rw [show (⟨x0, 2, x2, x3, Sv.nil, D32.z, x6, x7, x8, 0⟩ : Nd).cells.set 102 (Value.int .i64 1) = (⟨x0, 2, x2, x3, Sv.nil, D32.z, x6, x7, x8, 1⟩ : Nd).cells from Nd.s_held (⟨x0, 2, x2, x3, Sv.nil, D32.z, x6, x7, x8, 0⟩ : Nd) (1)]; rfl
theorem bs318 : BS Tryz.prog 318 ([Value.slice none 0 0] ++ ([Value.slice none 0 0] ++ ([Value.int .i64 0] ++ ([Value.int .i64 0])))) [(0, 1), (1, 1), (2, 1), (3, 1)] := BS.of Tryz.underlying318 (by kernel_rfl) (by kernel_rfl)
theorem bd318_32 (x2 : Int) : Instr.fill (fun x => [(0, 1), (1, 1), (2, 1), (3, 1)].toArray[x]?) ([Value.slice none 0 0] ++ ([Value.slice none 0 0] ++ ([Value.int .i64 0] ++ ([Value.int .i64 0])))).toArray [(2, Value.int .i64 x2)] = some (([Value.slice none 0 0] ++ ([Value.slice none 0 0] ++ ([Value.int .i64 x2] ++ ([Value.int .i64 0]))))).toArray := by
  refine xaj (vs := [Value.int .i64 x2]) rfl (rfl) (rfl) (by simp only [qp, qr, qs, D32.cl, Brv.len, Cla.len, Clm.len, Nd.len, Nod.len, Par.len, Plc.len, Prv.len, Sai.len, Say.len, Slo.len, Spv.len, Str.len]; decide) ?_
  have e2 : splice ([Value.slice none 0 0] ++ ([Value.slice none 0 0] ++ ([Value.int .i64 0] ++ ([Value.int .i64 0])))) 2 [Value.int .i64 x2] = ([Value.slice none 0 0] ++ ([Value.slice none 0 0] ++ ([Value.int .i64 x2] ++ ([Value.int .i64 0])))) := by
    have h := xa5 ([Value.slice none 0 0] ++ ([Value.slice none 0 0])) [Value.int .i64 0] ([Value.int .i64 0]) [Value.int .i64 x2] (by first | rfl | (simp only [D32.cl, Brv.len, Cla.len, Clm.len, Nd.len, Nod.len, Par.len, Plc.len, Prv.len, Sai.len, Say.len, Slo.len, Spv.len, Str.len, qr, qs])); have hl : (([Value.slice none 0 0] ++ ([Value.slice none 0 0])) : List Value).length = 2 := by first | rfl | (simp only [qp, qr, qs, D32.cl, Brv.len, Cla.len, Clm.len, Nd.len, Nod.len, Par.len, Plc.len, Prv.len, Sai.len, Say.len, Slo.len, Spv.len, Str.len])
    rw [hl] at h; simpa only [List.append_assoc, List.nil_append, List.append_nil, List.cons_append] using h
  rw [e2]; rfl
theorem bs340 : BS Tryz.prog 340 Slo.z.cells [(0, 103), (103, 1)] := BS.of Tryz.underlying340 (by kernel_rfl) (by kernel_rfl)
theorem bd340_33 (x : Nd) : Instr.fill (fun x => [(0, 103), (103, 1)].toArray[x]?) Slo.z.cells.toArray [(0, .agg x.cells.toArray), (1, .int .i64 1)] = some (x.slo 1).cells.toArray := by
  refine xaj (vs := x.cells) rfl rfl (Nd.len _) (by rw [Slo.len]; decide) ?_; have h := xa5 [] Nd.z.cells [.int .i64 0] x.cells (by rw [Nd.len, Nd.len]); simp only [qn, qs] at h; have e : Slo.z.cells = Nd.z.cells ++ [.int .i64 0] := Nd.slo_cells Nd.z 0; rw [e, h]; refine xaj (vs := [.int .i64 1]) rfl rfl rfl (by simp [Nd.len]) ?_; have h2 := xa5 x.cells [.int .i64 0] [] [.int .i64 1] rfl; rw [Nd.len] at h2; simp only [qu] at h2; rw [h2, ← Nd.slo_cells]; rfl
theorem bs259 : BS Tryz.prog 259 ([Value.pointer none] ++ ([Value.map none])) [(0, 1), (1, 1)] := BS.of Tryz.underlying259 (by kernel_rfl) (by kernel_rfl)
theorem bd259_35 (x0 : Value) (h0 : x0.oneCell' = true) (x1 : Value) (h1 : x1.oneCell' = true) : Instr.fill (fun x => [(0, 1), (1, 1)].toArray[x]?) ([Value.pointer none] ++ ([Value.map none])).toArray [(0, x0), (1, x1)] = some (([x0] ++ ([x1]))).toArray := by
  refine xaj (vs := [x0]) rfl (xeb _ h0) (rfl) (by simp only [qp, qr, qs, D32.cl, Brv.len, Cla.len, Clm.len, Nd.len, Nod.len, Par.len, Plc.len, Prv.len, Sai.len, Say.len, Slo.len, Spv.len, Str.len]; decide) ?_
  have e0 : splice ([Value.pointer none] ++ ([Value.map none])) 0 [x0] = ([x0] ++ ([Value.map none])) := by
    have h := xa5 ([] : List Value) [Value.pointer none] ([Value.map none]) [x0] (by first | rfl | (simp only [D32.cl, Brv.len, Cla.len, Clm.len, Nd.len, Nod.len, Par.len, Plc.len, Prv.len, Sai.len, Say.len, Slo.len, Spv.len, Str.len, qr, qs])); have hl : (([] : List Value) : List Value).length = 0 := by first | rfl | (simp only [qp, qr, qs, D32.cl, Brv.len, Cla.len, Clm.len, Nd.len, Nod.len, Par.len, Plc.len, Prv.len, Sai.len, Say.len, Slo.len, Spv.len, Str.len])
    rw [hl] at h; simpa only [List.append_assoc, List.nil_append, List.append_nil, List.cons_append] using h
  rw [e0]; refine xaj (vs := [x1]) rfl (xeb _ h1) (rfl) (by simp only [qp, qr, qs, D32.cl, Brv.len, Cla.len, Clm.len, Nd.len, Nod.len, Par.len, Plc.len, Prv.len, Sai.len, Say.len, Slo.len, Spv.len, Str.len]; decide) ?_
  have e1 : splice ([x0] ++ ([Value.map none])) 1 [x1] = ([x0] ++ ([x1])) := by
    have h := xa5 ([x0]) [Value.map none] ([] : List Value) [x1] (by first | rfl | (simp only [D32.cl, Brv.len, Cla.len, Clm.len, Nd.len, Nod.len, Par.len, Plc.len, Prv.len, Sai.len, Say.len, Slo.len, Spv.len, Str.len, qr, qs])); have hl : (([x0]) : List Value).length = 1 := by first | rfl | (simp only [qp, qr, qs, D32.cl, Brv.len, Cla.len, Clm.len, Nd.len, Nod.len, Par.len, Plc.len, Prv.len, Sai.len, Say.len, Slo.len, Spv.len, Str.len])
    rw [hl] at h; simpa only [List.append_assoc, List.nil_append, List.append_nil, List.cons_append] using h
  rw [e1]; rfl
section
variable {D : Nat → Prop} {w w' : World} {g : Nat} {σ σ' : Sb} {vs vf vs' vf' : Sv}
def Sb.takeF (σ : Sb) (i : Nat) (e : En) : Sb := ⟨σ.slots.set i e, σ.free.dropLast, σ.room, σ.used + 1⟩
def Sb.takeN (σ : Sb) (e : En) : Sb := ⟨σ.slots ++ [e], σ.free, σ.room, σ.used + 1⟩
theorem Sb.takeF_ok (h : σ.Ok) (i : Nat) (e : En) (hf : 0 < σ.free.length) : (σ.takeF i e).Ok :=
  ⟨h.r1, h.r2, by have := h.fit; simp [Sb.takeF]; omega, by simpa [Sb.takeF] using h.few, fun n hn => by
    have h1 := h.fr n (List.dropLast_subset _ hn)
    simpa [Sb.takeF] using h1⟩
theorem Sb.takeN_ok (h : σ.Ok) (e : En) (hf : σ.free = []) (hu : σ.used < σ.room) : (σ.takeN e).Ok :=
  ⟨h.r1, h.r2, by have := h.fit; simp [Sb.takeN, hf] at this ⊢; omega, by have := h.fit; simp [hf] at this; simp [Sb.takeN]; omega, fun n hn => by rw [show (σ.takeN e).free = σ.free from rfl, hf] at hn; simp at hn⟩
theorem row_take (i : Nat) (hi : i < σ.slots.length) (e : En) (sp : List Value) : splice (rowS σ ++ sp) (i * 104) e.cells = rowS (σ.takeF i e) ++ sp := by
  unfold rowS Sb.takeF; exact xe4 En.len _ sp i _ hi
theorem sbs_free (h : SbP D w g σ vs vf) (hf : 0 < σ.free.length) : ∃ F sp, vf = ⟨some ⟨F, 0, none⟩, σ.free.length, vf.c⟩ ∧ vf.v.ownBlock = some F ∧ Blk w F 3 (rowF σ ++ sp) ∧ σ.free.length ≤ vf.c ∧ vf.c ≤ maxLen ∧ (rowF σ ++ sp).length = vf.c * 1 := by
  exact xfv h.free hf
theorem xm5 (h : SbP D w g σ vs vf) (x : Nd) (val : List UInt8) (fl : List Nat) (i : Nat) (hfree : σ.free = fl ++ [i + 1]) (hroom : σ.used < σ.room) (hx : ValOk D w g vs vf x.vs val) :
    Calls Tryz.prog 208 #[.pointer (some ⟨g, 0, none⟩), .agg x.cells.toArray] w fun e w' => ∃ D' vf', e = .returned (.tuple #[.int .i64 ((i + 1 : Nat) : Int), .int .i64 0]) ∧ SbP D' w' g (σ.takeF i ⟨x, 1, val⟩) vs vf' ∧ Stp D w D' w' ∧ Fr (SbS g vs vf) w w' := by
  have hfn : σ.free.length = fl.length + 1 := by rw [hfree]; simp
  have hi : i < σ.slots.length := by
    have := h.ok.fr (i + 1) (by rw [hfree]; simp); omega
  obtain ⟨G, sp, he, hD, hS, hb, hcap, hmx, hlen⟩ := h.slotC i hi; obtain ⟨F, sf, hef, hFo, hbF, hcapF, hmxF, hlenF⟩ := sbs_free h (by omega); have hap := h.apart G _ hb; have hFG : F ≠ G := fun e => hap.2 (e ▸ hFo)
  have hFg : F ≠ g := sbs_ne h hFo; have hrow := hZ (row_take i hi ⟨x, 1, val⟩ sp); have hfit : i * 104 + 104 ≤ (rowS σ ++ sp).length := by rw [hlen]; omega
  have hfl : Hid ((rowF σ ++ sf)[fl.length]? = some (.int .i64 ((i + 1 : Nat) : Int))) := by
    show _ = _; unfold rowF; rw [hfree]; simp
  have hbg := h.blk; have hub := h.ok.fit; have hfew := h.ok.few; have hr2 := h.ok.r2; have k1 : ((σ.used : Int) == (σ.room : Int)) = false := by simp; omega
  have k2 : decide ((0 : Int) < (σ.free.length : Int)) = true := by simp; omega
  have HU : Hid ((σ.used : Int) + 1 = ((σ.used + 1 : Nat) : Int)) := hZ (by omega); have HF1 : Hid ((σ.free.length : Int) - 1 = (fl.length : Int)) := hZ (by omega); have HI1 : Hid (((i + 1 : Nat) : Int) - 1 = (i : Int)) := hZ (by omega); have hU2 : σ.used < 65536 := by omega
  have hF2 : fl.length + 1 ≤ 65536 := by omega
  have hi2 : i < 65536 := by omega
  have hflt : fl.length < σ.free.length := by omega
  have hfcap : fl.length ≤ vf.c := by omega
  have hHE := hZ (And.intro he (And.intro hef (And.intro hfree (And.intro hlen (And.intro hlenF hfn))))); have HH := hZ h; rw [he, hef] at hbg; clear he hef hfree hlen hlenF hub hfew hr2 h hfn; generalize hm : σ.free.length = m at *; have HM := hZ hm; clear hm; have HL := Loc.start w; obtain ⟨w0, rfl⟩ := eW w; go_enter Tryz.func208, Tryz.ntmps208; go_upto_region 0 with fail; refine X35 ?_; clear HL; intro g3 w HL; refine X1j ?_; go_upto_region 1 with fail; refine X20 ?_; intro K hK; (with_reducible refine (xff (HH.out.below HL.below)).mono ?_); rintro e w ⟨rfl, rfl⟩; refine X23 ?_; clear hK K
  replace HL := HL.adopt (fun k => k = G ∨ k = g ∨ k = F) [(G, 340, rowS σ ++ sp), (g, 318, [(⟨some ⟨G, 0, none⟩, σ.slots.length, vs.c⟩ : Sv).v, (⟨some ⟨F, 0, none⟩, m, vf.c⟩ : Sv).v, .int .i64 (σ.room : Int), .int .i64 (σ.used : Int)]), (F, 3, rowF σ ++ sf)] (by intro y hy; simp at hy; rcases hy with rfl | rfl | rfl; exact ⟨.inl rfl, hb⟩; exact ⟨.inr (.inl rfl), hbg⟩; exact ⟨.inr (.inr rfl), hbF⟩) (by simp; exact ⟨⟨hap.1, Ne.symm hFG⟩, Ne.symm hFg⟩); simp only [qm, qn] at HL; go_upto_region 3 with fail; refine X36 ?_; refine X3b ?_; intro HL; refine xac rfl rfl HL (fun W hW => xaf xm2 _ rfl _ rfl) ?_; refine X5 ?_; refine X3c ?_; refine X3d ?_; refine X3a ?_; refine xac rfl rfl HL (fun W hW => xaf xje _ rfl _ rfl) ?_; refine X5 ?_; refine X3c ?_; refine X3g ?_; go_upto_region 5 with fail; refine X16 ?_; refine X24 ?_; refine X5 ?_
  refine xaa rfl _ (xag sc3 HL _ rfl _ _ rfl _ _ _ (.tail _ (.tail _ (.head _))) (rfl)) ?_; refine X5 ?_; refine X3h ?_; refine X24 ?_; refine X5 ?_; refine xaw sc3 rfl _ _ rfl HL 2 _ _ _ _ _ _ rfl rfl rfl rfl (by simp) (rfl) ?_; refine X3j ?_; clear HL; intro w HL; go_upto_region 6 with fail; refine X16 ?_; refine X3k ?_; refine X5 ?_; refine X3l ?_; refine X5 ?_; refine X3m ?_; refine X1c ?_; go_upto_region 7 with fail; refine X2r ?_; go_upto_region 8 with fail; refine X16 ?_; refine X3k ?_; refine X5 ?_; refine X3l ?_; refine X3n ?_; refine X5 ?_; refine xaa rfl _ (xbe sl71 _ _ rfl F _ _ fl.length _ rfl rfl hflt) ?_; refine X5 ?_; refine xaa rfl _ (xag sc3 HL _ rfl _ _ rfl _ _ _ (.tail _ (.tail _ (.tail _ (.head _)))) (by rw [Nat.mul_one]; exact hfl.out)) ?_; refine X1c ?_; go_upto_region 9 with fail; refine X3o ?_; refine X3k ?_
  refine X5 ?_; refine X3l ?_; refine X3n ?_; refine X5 ?_; refine xaa rfl _ (xdv sl71 _ _ rfl (some ⟨F, 0, none⟩) m vf.c fl.length _ rfl rfl hfcap) ?_; refine X18 ?_; refine X3k ?_; refine X5 ?_; refine xaw sc71 rfl _ _ rfl HL 2 _ _ _ _ _ _ rfl rfl rfl rfl (by simp) (rfl) ?_; refine X3j ?_; clear HL; intro w HL; go_upto_region 10 with fail; refine rB (Loc.P HL) [9] [9] [0, 1, 2, 3, 4, 5, 6, 7, 8, 9] 0 ?_; refine X3b ?_; intro HL; refine xac rfl rfl HL (fun W hW => xaf xfe _ rfl _ rfl) ?_; refine X5 ?_; refine xac rfl rfl HL (fun W hW => xag sc316 hW _ rfl _ _ rfl _ _ _ (.tail _ (.tail _ (.head _))) (rfl)) ?_; refine X3d ?_; refine xac rfl rfl HL (fun W hW => xbv _ _ rfl _ _ _ rfl rfl HI1.out (by omega)) ?_; refine X5 ?_; refine X3p ?_; refine X3q ?_; refine X5 ?_
  refine xac rfl rfl HL (fun W hW => xbe xol _ _ rfl G _ _ i _ rfl rfl hi) ?_; refine Xk ?_; intro K hK; refine xav ag340.i _ _ rfl G (i * 104) 340 _ _ rfl rfl (HL.blk (.tail _ (.head _))) (Slo.len _) hfit (Slo.one _) ?_; intro w' hb' hg' _; refine X3r ?_; clear hK K; rw [show splice (rowS σ ++ sp) (i * 104) (x.slo 1).cells = rowS (σ.takeF i ⟨x, 1, val⟩) ++ sp from hrow.out] at hb'; replace HL := HL.putAt (i := 1) rfl hb' hg'; simp only [qg, qh] at HL; refine Xc ?_; go_upto_region 11 with fail; refine X3s ?_; go_wp2_with fail; go_ret2; obtain ⟨he, hef, hfree, hlen, hlenF, hfn⟩ := hHE.out
  have hfin : Fr (SbS g vs vf) w0 w' := by
    refine ⟨HL.fr.os, HL.fr.tape, HL.fr.output, HL.fr.size, fun k hk hn => HL.heap ⟨hk, ?_⟩⟩; rintro (rfl | rfl | rfl)
    · exact hn hS
    · exact hn (.inl rfl)
    · exact hn (.inr (.inr hFo))
  have hG1 := HL.blk (.tail _ (.head _)); have hg1 := HL.blk (.tail _ (.tail _ (.head _))); have hF1 := HL.blk (.tail _ (.tail _ (.tail _ (.head _)))); have hn : (σ.takeF i ⟨x, 1, val⟩).slots.length = σ.slots.length := by simp [Sb.takeF]
  have hfl2 : (σ.takeF i ⟨x, 1, val⟩).free = fl := by simp [Sb.takeF, hfree]
  have hag := HH.out.again (σ' := σ.takeF i ⟨x, 1, val⟩) (vs' := vs) (vf' := ⟨some ⟨F, 0, none⟩, fl.length, vf.c⟩) hfin (by
    rintro k (rfl | e | e)
    · exact .inl (.inl rfl)
    · exact .inl (.inr (.inl e))
    · simp [Sv.v, Value.ownBlock] at e
      exact .inl (.inr (.inr (e ▸ hFo)))) (by
    rintro k (rfl | e | e)
    · exact hg1.lt
    · rw [he] at e; simp [Sv.v, Value.ownBlock] at e; rw [← e]; exact hG1.lt
    · simp [Sv.v, Value.ownBlock] at e; rw [← e]; exact hF1.lt) (by rw [he]; exact hg1) (by
      rw [hn]; refine xgu he hG1 (by rw [xfw, hn]) hcap hmx ?_; rw [List.length_append, xfw] at hlen ⊢
      rw [hn]; exact hlen) (by
      rw [hfl2]; have e1 : rowF σ ++ sf = (fl.map fun n : Nat => Value.int .i64 (n : Int)) ++ ([.int .i64 ((i + 1 : Nat) : Int)] ++ sf) := by unfold rowF; rw [hfree]; simp
      have e2 : rowF (σ.takeF i ⟨x, 1, val⟩) = fl.map fun n : Nat => Value.int .i64 (n : Int) := by unfold rowF; rw [hfl2]
      rw [e2]; rw [e1] at hF1 hlenF
      exact xgu (v := ⟨some ⟨F, 0, none⟩, fl.length, vf.c⟩) rfl hF1 (by simp) hfcap hmxF hlenF) (Sb.takeF_ok HH.out.ok i _ (by rw [hfree]; simp)) (by
      intro e he'; rcases List.mem_or_eq_of_mem_set he' with he' | rfl
      · exact .inl he'
      · refine .inr ⟨?_, hx.2⟩
        have h1 := hx.fr hfin (fun k hk => hk); refine ⟨h1.1.len, h1.1.cap, h1.1.max, h1.1.rd, fun ad e hk => h1.1.far ad e ?_⟩; rcases hk with e | e | e
        · exact .inl e
        · exact .inr (.inl e)
        · simp [Sv.v, Value.ownBlock] at e
          exact .inr (.inr (e ▸ hFo)))
  exact ⟨_, _, rfl, hag.1, hag.2, hfin⟩
end
end Go.Proofs.YtkjjdgnkelchfaaGreat
