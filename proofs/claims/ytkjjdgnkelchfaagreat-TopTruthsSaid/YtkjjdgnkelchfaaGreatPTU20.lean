import Derived.Test.YtkjjdgnkelchfaaGreatPTU19
set_option linter.unusedSimpArgs false
set_option linter.unusedVariables false
set_option maxRecDepth 100000
set_option maxHeartbeats 16000000
namespace Go.Proofs.YtkjjdgnkelchfaaGreat
open Go Go.RowKit
def brOf (b : Brv) : Br := ⟨UInt8.ofNat b.kind, b.key.l, b.val.l, b.dig.l⟩
theorem xl8 (x y : Brv) : xl3 x y = true ↔ x.kind = y.kind ∧ x.key.l = y.key.l ∧ x.val.l = y.val.l ∧ x.dig.l = y.dig.l := by
  unfold xl3; simp only [Bool.and_eq_true, beq_iff_eq, and_true]; constructor
  · rintro ⟨h1, h2, h3, h4⟩; exact ⟨by omega, h2, h3, h4⟩
  · rintro ⟨h1, h2, h3, h4⟩; exact ⟨by omega, h2, h3, h4⟩
theorem zl : D32.z.l = zb32 := rfl
theorem xgh {b : Brv} (h : xa9 b = true) : xkj (brOf b) = true ∧ b.kind ≤ 3 := by
  unfold xa9 at h
  split at h
  · rename_i h0
    have h1 := (xl8 _ _).1 h; have e2 : b.key.l = zb32 := h1.2.1; have e3 : b.val.l = zb32 := h1.2.2.1; have e4 : b.dig.l = zb32 := h1.2.2.2; refine ⟨?_, by omega⟩; unfold xkj brOf; rcases h0 with h0 | h0 <;> simp [h0, e2, e3, e4]
  · split at h
    · rename_i h0 h1
      have e2 : b.dig.l = zb32 := by simpa [zl] using h
      refine ⟨?_, by omega⟩; unfold xkj brOf; simp [h1, e2]
    · split at h
      · rename_i h0 h1 h3
        have h2 := (xl8 _ _).1 h; have e2 : b.key.l = zb32 := h2.2.1; have e3 : b.val.l = zb32 := h2.2.2.1; refine ⟨?_, by omega⟩; unfold xkj brOf; simp [h3, e2, e3]
      · cases h
theorem xgi {b : Brv} (h : b.kind ≤ 3) (k : Nat) (hk : k ≤ 3) : (brOf b).k = UInt8.ofNat k ↔ b.kind = k := by
  unfold brOf; constructor
  · intro e
    have := congrArg UInt8.toNat e; rw [UInt8.toNat_ofNat_of_lt' (show b.kind < 256 by omega), UInt8.toNat_ofNat_of_lt' (show k < 256 by omega)] at this; exact this
  · rintro rfl; rfl
def eL (e : D32 × D32) : Bts × Bts := (e.1.l, e.2.l)
def spOf (r : SpD) : SpR := ⟨r.dig.l, r.rest.map brOf, r.ents.map eL, r.sides.map D32.l, r.fin.map eL⟩
theorem xl9 (fr til key : D32) (n : Nat) : ∀ (bs : List Brv) (top : D32) (d : Nat) (r : SpD), plS fr til key n bs top d = some r → xek shaL (spW fr.l til.l key.l) n (bs.map brOf) top.l d = some (spOf r) := by
  induction n with
  | zero =>
    intro bs top d r h
    cases bs with
    | nil => simp [plS] at h
    | cons b bs =>
      obtain ⟨hq0, hq1, hq2, hq3, hq4, hq5⟩ := xem fr til key 0 b bs top d
      cases hc : xa9 b with
      | false => rw [hq0 hc] at h; cases h
      | true =>
        obtain ⟨hcb, hk3⟩ := xgh hc; have k0 := xgi hk3 0 (by omega); have k1 := xgi hk3 1 (by omega); have k2 := xgi hk3 3 (by omega); have k0' : (brOf b).k = 0 ↔ b.kind = 0 := k0; have k1' : (brOf b).k = 1 ↔ b.kind = 1 := k1; have k3' : (brOf b).k = 3 ↔ b.kind = 3 := k2; rw [List.map_cons]; unfold xek; rw [if_neg (by rw [hcb]; decide)]; by_cases h0 : b.kind = 0
        · rw [hq1 hc h0] at h
          injection h with h; subst h; rw [if_pos (k0'.2 h0)]; rfl
        rw [if_neg (fun e => h0 (k0'.1 e))]; by_cases h3 : b.kind = 3
        · rw [hq2 hc h3] at h
          rw [if_pos (k3'.2 h3)]
          cases ht : tchB fr.l til.l top.l d with
          | true => rw [ht] at h; simp at h
          | false =>
            rw [ht, if_neg (by decide)] at h; injection h with h; subst h; rw [if_neg (by show ¬ tchB fr.l til.l top.l d = true; rw [ht]; decide)]; rfl
        rw [if_neg (fun e => h3 (k3'.1 e))]
        cases ht : tchB fr.l til.l top.l d with
        | false => rw [hq3 hc (by omega) ht] at h; cases h
        | true =>
          rw [if_neg (by show ¬ tchB fr.l til.l top.l d = false; rw [ht]; decide)]; by_cases h1 : b.kind = 1
          · rw [hq4 hc h1 ht] at h
            rw [if_pos (k1'.2 h1)]
            cases hu : xa1 b.key.l top.l d with
            | false => rw [hu] at h; simp at h
            | true =>
              rw [hu, if_pos rfl] at h; injection h with h; subst h; rw [if_pos (by show xa1 b.key.l top.l d = true; exact hu)]; show some _ = some _; congr 1; show SpR.mk _ _ _ _ _ = spOf _; unfold spOf; congr 1
              · show (if inB fr.l til.l b.key.l = true then _ else _) = _
                split <;> simp_all [eL, brOf]
              · show (if xa1 key.l top.l d = true then _ else _) = _
                split <;> simp_all [eL, brOf]
          · rw [hq5 hc (by omega) rfl] at h; cases h
  | succ n ih =>
    intro bs top d r h
    cases bs with
    | nil => simp [plS] at h
    | cons b bs =>
      obtain ⟨hq0, hq1, hq2, hq3, hq4, _⟩ := xem fr til key (n + 1) b bs top d
      cases hc : xa9 b with
      | false => rw [hq0 hc] at h; cases h
      | true =>
        obtain ⟨hcb, hk3⟩ := xgh hc; have k0' : (brOf b).k = 0 ↔ b.kind = 0 := xgi hk3 0 (by omega); have k1' : (brOf b).k = 1 ↔ b.kind = 1 := xgi hk3 1 (by omega); have k3' : (brOf b).k = 3 ↔ b.kind = 3 := xgi hk3 3 (by omega); rw [List.map_cons]; unfold xek; rw [if_neg (by rw [hcb]; decide)]; by_cases h0 : b.kind = 0
        · rw [hq1 hc h0] at h
          injection h with h; subst h; rw [if_pos (k0'.2 h0)]; rfl
        rw [if_neg (fun e => h0 (k0'.1 e))]; by_cases h3 : b.kind = 3
        · rw [hq2 hc h3] at h
          rw [if_pos (k3'.2 h3)]
          cases ht : tchB fr.l til.l top.l d with
          | true => rw [ht] at h; simp at h
          | false =>
            rw [ht, if_neg (by decide)] at h; injection h with h; subst h; rw [if_neg (by show ¬ tchB fr.l til.l top.l d = true; rw [ht]; decide)]; rfl
        rw [if_neg (fun e => h3 (k3'.1 e))]
        cases ht : tchB fr.l til.l top.l d with
        | false => rw [hq3 hc (by omega) ht] at h; cases h
        | true =>
          rw [if_neg (by show ¬ tchB fr.l til.l top.l d = false; rw [ht]; decide)]; by_cases h1 : b.kind = 1
          · rw [hq4 hc h1 ht] at h
            rw [if_pos (k1'.2 h1)]
            cases hu : xa1 b.key.l top.l d with
            | false => rw [hu] at h; simp at h
            | true =>
              rw [hu, if_pos rfl] at h; injection h with h; subst h; rw [if_pos (by show xa1 b.key.l top.l d = true; exact hu)]; show some _ = some _; congr 1; show SpR.mk _ _ _ _ _ = spOf _; unfold spOf; congr 1
              · show (if inB fr.l til.l b.key.l = true then _ else _) = _
                split <;> simp_all [eL, brOf]
              · show (if xa1 key.l top.l d = true then _ else _) = _
                split <;> simp_all [eL, brOf]
          · rw [if_neg (fun e => h1 (k1'.1 e))]
            obtain ⟨hd0, hd1, hd2⟩ := xf7 fr til key n b bs top d hc (by omega) ht
            cases ha : plS fr til key n bs top (d + 1) with
            | none => rw [hd0 ha] at h; cases h
            | some a =>
              cases hcc : plS fr til key n a.rest (xdm top d) (d + 1) with
              | none => rw [hd1 a ha hcc] at h; cases h
              | some c =>
                rw [hd2 a c ha hcc] at h; injection h with h; subst h; have e1 := ih bs top (d + 1) a ha; have e2 := ih a.rest (xdm top d) (d + 1) c hcc; simp only [e1]; have e3 : xek shaL (spW fr.l til.l key.l) n (spOf a).rest ((spW fr.l til.l key.l).flip top.l d) (d + 1) = some (spOf c) := e2; simp only [e3]; show some _ = some _; congr 1; show SpR.mk _ _ _ _ _ = spOf _; unfold spOf; congr 1
                · simp
                · show _ ++ (if xa1 key.l top.l d = true then [if tb key.l d = true then _ else _] else []) = _
                  simp only [List.map_append]; congr 1
                  split
                  · split <;> rfl
                  · rfl
                · cases c.fin <;> rfl
theorem plS_key (fr til k1 k2 : D32) (n : Nat) : ∀ (bs : List Brv) (top : D32) (d : Nat) (r : SpD), plS fr til k1 n bs top d = some r → ∃ r2, plS fr til k2 n bs top d = some r2 ∧ r2.dig = r.dig ∧ r2.rest = r.rest ∧ r2.ents = r.ents := by
  induction n with
  | zero =>
    intro bs top d r h
    cases bs with
    | nil => simp [plS] at h
    | cons b bs =>
      obtain ⟨hq0, hq1, hq2, hq3, hq4, hq5⟩ := xem fr til k1 0 b bs top d; obtain ⟨hr0, hr1, hr2, hr3, hr4, hr5⟩ := xem fr til k2 0 b bs top d
      cases hc : xa9 b with
      | false => rw [hq0 hc] at h; cases h
      | true =>
        have hk3 := (xgh hc).2; by_cases h0 : b.kind = 0
        · rw [hq1 hc h0] at h; injection h with h; subst h; exact ⟨_, hr1 hc h0, rfl, rfl, rfl⟩
        by_cases h3 : b.kind = 3
        · rw [hq2 hc h3] at h
          cases ht : tchB fr.l til.l top.l d with
          | true => rw [ht] at h; simp at h
          | false => rw [ht, if_neg (by decide)] at h; injection h with h; subst h; exact ⟨_, by rw [hr2 hc h3, ht, if_neg (by decide)], rfl, rfl, rfl⟩
        cases ht : tchB fr.l til.l top.l d with
        | false => rw [hq3 hc (by omega) ht] at h; cases h
        | true =>
          by_cases h1 : b.kind = 1
          · rw [hq4 hc h1 ht] at h
            cases hu : xa1 b.key.l top.l d with
            | false => rw [hu] at h; simp at h
            | true => rw [hu, if_pos rfl] at h; injection h with h; subst h; have h9 := hr4 hc h1 ht; rw [hu, if_pos rfl] at h9; exact ⟨_, h9, rfl, rfl, rfl⟩
          · rw [hq5 hc (by omega) rfl] at h; cases h
  | succ n ih =>
    intro bs top d r h
    cases bs with
    | nil => simp [plS] at h
    | cons b bs =>
      obtain ⟨hq0, hq1, hq2, hq3, hq4, hq5⟩ := xem fr til k1 (n + 1) b bs top d; obtain ⟨hr0, hr1, hr2, hr3, hr4, hr5⟩ := xem fr til k2 (n + 1) b bs top d
      cases hc : xa9 b with
      | false => rw [hq0 hc] at h; cases h
      | true =>
        have hk3 := (xgh hc).2; by_cases h0 : b.kind = 0
        · rw [hq1 hc h0] at h; injection h with h; subst h; exact ⟨_, hr1 hc h0, rfl, rfl, rfl⟩
        by_cases h3 : b.kind = 3
        · rw [hq2 hc h3] at h
          cases ht : tchB fr.l til.l top.l d with
          | true => rw [ht] at h; simp at h
          | false => rw [ht, if_neg (by decide)] at h; injection h with h; subst h; exact ⟨_, by rw [hr2 hc h3, ht, if_neg (by decide)], rfl, rfl, rfl⟩
        cases ht : tchB fr.l til.l top.l d with
        | false => rw [hq3 hc (by omega) ht] at h; cases h
        | true =>
          by_cases h1 : b.kind = 1
          · rw [hq4 hc h1 ht] at h
            cases hu : xa1 b.key.l top.l d with
            | false => rw [hu] at h; simp at h
            | true => rw [hu, if_pos rfl] at h; injection h with h; subst h; have h9 := hr4 hc h1 ht; rw [hu, if_pos rfl] at h9; exact ⟨_, h9, rfl, rfl, rfl⟩
          · obtain ⟨hd0, hd1, hd2⟩ := xf7 fr til k1 n b bs top d hc (by omega) ht
            obtain ⟨_, _, he2⟩ := xf7 fr til k2 n b bs top d hc (by omega) ht
            cases ha : plS fr til k1 n bs top (d + 1) with
            | none => rw [hd0 ha] at h; cases h
            | some a =>
              cases hcc : plS fr til k1 n a.rest (xdm top d) (d + 1) with
              | none => rw [hd1 a ha hcc] at h; cases h
              | some c =>
                rw [hd2 a c ha hcc] at h; injection h with h; subst h; obtain ⟨a2, h5, e1, e2, e3⟩ := ih bs top (d + 1) a ha; obtain ⟨c2, h6, f1, f2, f3⟩ := ih a.rest (xdm top d) (d + 1) c hcc; rw [← e2] at h6; exact ⟨_, he2 a2 c2 h5 h6, by show tagI a2.dig c2.dig = tagI a.dig c.dig; rw [e1, f1], f2, by show a2.ents ++ c2.ents = a.ents ++ c.ents; rw [e3, f3]⟩
theorem rdS_key {fr til k1 k2 : D32} {bs : List Brv} {ls : List (List UInt8)} {r : SpD} (h : rdS fr til k1 bs ls = some r) : ∃ r2, rdS fr til k2 bs ls = some r2 ∧ r2.dig = r.dig ∧ r2.ents = r.ents := by
  obtain ⟨h1, h2, h3, h4, h5, h6, h7⟩ := xe9 h; obtain ⟨r2, g1, g2, g3, g4⟩ := plS_key fr til k1 k2 256 bs D32.z 0 r h3; refine ⟨r2, ?_, g2, g4⟩; unfold rdS; rw [if_neg (by omega), if_neg h7, g1]; simp only; rw [if_pos]; rw [g3, g4, h4]; simp [h5, h6]
theorem okN_none : okN ⟨0, D32.z, D32.z, D32.z, D32.z⟩ = true := by decide
theorem okN_leaf (k v : D32) : okN ⟨1, k, v, D32.z, D32.z⟩ = true := by
  unfold okN xdf; simp [xer]
theorem xut (root fr til key : D32) (bs : List Brv) (ls : List (List UInt8)) (r : SpD) (x : Prv) (lv : List UInt8) (h : rdS fr til key bs ls = some r) (hin : inB fr.l til.l key.l = true) (hroot : r.dig.l = root.l)
    (hx : x.nod = finD ⟨0, D32.z, D32.z, D32.z, D32.z⟩ r.fin) (hn : x.sides.n = r.sides.length)
    (hv : ∀ v, (key, v) ∈ r.ents → v.l = (tagV lv).l ∧ lv.length ≤ 1024) : Good root key x r.sides.reverse lv := by
  obtain ⟨_, _, h3, _, _, _, _⟩ := xe9 h; have h8 := xl9 fr til key 256 bs D32.z 0 r h3; have hz : TopZ zb32 0 := xl1; obtain ⟨ho, _⟩ := xkm shaL xbb (spW fr.l til.l key.l) TopZ (spW_ok fr.l til.l key.l key.h hin) 256 (bs.map brOf) zb32 0 (spOf r) rfl hz (by intro b hb; obtain ⟨y, _, rfl⟩ := List.mem_map.1 hb; exact y.dig.h) h8; have hu : (spW fr.l til.l key.l).under (spW fr.l til.l key.l).key zb32 0 = true := (xch key.l zb32 0 (by omega)).2 (fun e he => by omega); have hup := ho.up hu; have hfew := ho.few hu; have hl : r.sides.length ≤ 256 := by simpa [spOf] using hfew
  have hup2 : upW shaL (tb key.l) 0 (r.sides.reverse.map D32.l) (endT (r.fin.map eL)) = root.l := by
    rw [← hroot, List.map_reverse]; exact hup
  have hkind : x.kind = x.nod.kind := rfl
  cases hf : r.fin with
  | none =>
    rw [hf] at hx hup2; have hx2 : x.nod = ⟨0, D32.z, D32.z, D32.z, D32.z⟩ := hx; refine ⟨by omega, by rw [hx2]; exact okN_none, by rw [hkind, hx2]; decide, none, ?_, fun d hd => by cases hd⟩; unfold sayP pfOf; rw [hx2]; have e : finN ⟨0, D32.z, D32.z, D32.z, D32.z⟩ = none := rfl; rw [e]; exact if_pos hup2
  | some e =>
    obtain ⟨k, v⟩ := e; rw [hf] at hx hup2; have hx2 : x.nod = ⟨1, k, v, D32.z, D32.z⟩ := hx; have hfs : (spOf r).fin = some (k.l, v.l) := by unfold spOf; rw [hf]; rfl
    obtain ⟨t, ht1, ht2⟩ := ho.fin k.l v.l hfs; have hsl : (spOf r).sides.length = r.sides.length := by simp [spOf]
    rw [hsl, Nat.zero_add] at ht1 ht2
    have hun : xa1 k.l key.l (r.sides.reverse.map D32.l).length = true := by
      rw [List.length_map, List.length_reverse]; refine (xch _ _ _ hl).2 fun e he => ?_
      rw [(xch k.l t _ hl).1 ht1 e he, (xch key.l t _ hl).1 ht2 e he]
    have e : finN ⟨1, k, v, D32.z, D32.z⟩ = some (k.l, v.l) := rfl; refine ⟨by omega, by rw [hx2]; exact okN_leaf k v, by rw [hkind, hx2]; exact (by decide : (1 : Nat) ≠ 2), if k.l = key.l then some v.l else none, ?_, fun d hd => ?_⟩
    · unfold sayP pfOf
      rw [hx2, e]; show (if upW shaL (tb key.l) 0 (r.sides.reverse.map D32.l) (endT (some (k.l, v.l))) = root.l then (if xa1 k.l key.l (r.sides.reverse.map D32.l).length = true then (if k.l = key.l then some (some v.l) else some none) else none) else none) = _; refine (if_pos hup2).trans ?_; rw [if_pos hun]
      split <;> rfl
    · split at hd
      · rename_i hkk
        injection hd with hd; subst hd; have hkey : k = key := D32.ext hkk; subst hkey; have hm := ho.ent k.l v.l hfs rfl; obtain ⟨⟨k2, v2⟩, hm2, he⟩ := List.mem_map.1 hm; have e1 : k2 = k := D32.ext (congrArg Prod.fst he); have e2 : v2 = v := D32.ext (congrArg Prod.snd he); subst e1 e2; exact hv v2 hm2
      · cases hd
section
variable {w1 w w2 : World} {D : Nat → Prop} {L : List (Nat × Nat × List Value)} {N : Nat}
theorem Loc.restD (H : Loc w1 D L w) (hb : Below w.heap.size w w2) {k : Nat} (hd : D k) : Rest w2 L k :=
  ⟨Nat.lt_of_lt_of_le (H.lt hd) hb.size, fun x hx e => (H.own x hx).1 (by rw [e]; exact hd)⟩
theorem Rd.lt {A : Option Addr} {cs : List Value} (h : Rd w A cs) (hne : cs ≠ []) {ad : Addr} (e : A = some ad) : ad.block < w.heap.size := by
  obtain ⟨ad', e', hc⟩ := h (List.length_pos_iff.2 hne); rw [e] at e'; cases e'; have := World.block_lt_of_cell? _ _ (hc 0 _ (List.getElem?_eq_getElem (List.length_pos_iff.2 hne))); rwa [show (ad.add 0).block = ad.block by unfold Addr.add; split <;> rfl] at this
theorem bvs_ne {l : List UInt8} (h : bvs l ≠ []) : l ≠ [] := by rintro rfl; exact h rfl
theorem xnt {l : List UInt8} (h : l ≠ []) : bvs l ≠ [] := by
  cases l with
  | nil => exact absurd rfl h
  | cons x xs => intro e; cases e
structure TxD (w1 : World) (D : Nat → Prop) (s : Sv) (l : List UInt8) : Prop where
  tx : Tx w1 s.A s.n s.c l
  d : l ≠ [] → ∀ ad, s.A = some ad → D ad.block
theorem TxD.old {s : Sv} {l : List UInt8} (h : Tx w s.A s.n s.c l) : TxD w (Old w) s l := ⟨h, fun hne ad e => h.rd.lt (xnt hne) e⟩
theorem TxD.at {s : Sv} {l : List UInt8} (h : TxD w1 D s l) (H : Loc w1 D L w) : Tx w s.A s.n s.c l :=
  ⟨h.tx.len, h.tx.cap, h.tx.max, h.tx.rd.keepE H (fun hne ad e => h.d (bvs_ne hne) ad e), fun _ _ h => h⟩
theorem TxD.turn {s : Sv} {l : List UInt8} (h : TxD w1 D s l) (H : Loc w1 D L w) (hb : Below w.heap.size w w2) : TxD w2 (Rest w2 L) s l :=
  ⟨(h.at H).below hb, fun hne ad e => H.restD hb (h.d hne ad e)⟩
theorem TxD.fresh {s : Sv} {l : List UInt8} (h : Tx w2 s.A s.n s.c l) (H : Loc w1 D L w) (hf : ∀ ad, s.A = some ad → w.heap.size ≤ ad.block) : TxD w2 (Rest w2 L) s l :=
  ⟨h, fun hne ad e => H.fresh (hf ad e) (h.rd.lt (xnt hne) e)⟩
structure SdD (w1 : World) (D : Nat → Prop) (s : Sv) (ds : List D32) : Prop where
  sd : Sds w1 s ds
  d : ds ≠ [] → ∀ ad, s.A = some ad → D ad.block
theorem xk1 {α : Type} {f : α → List Value} {z : Nat} (hz : ∀ x, (f x).length = z) (h0 : 0 < z) {xs : List α} : xs.flatMap f ≠ [] ↔ xs ≠ [] := by
  constructor
  · rintro h rfl; exact h rfl
  · intro h e
    have h1 := xbx hz xs; rw [e, List.length_nil] at h1; have h2 := List.length_pos_iff.2 h; have h3 := Nat.mul_pos h2 h0; omega
theorem SdD.at {s : Sv} {ds : List D32} (h : SdD w1 D s ds) (H : Loc w1 D L w) : Sds w s ds :=
  ⟨h.sd.rd.keepE H (fun hne ad e => h.d ((xk1 D32.cl (by decide)).1 hne) ad e), h.sd.len, h.sd.cap⟩
theorem SdD.fresh {s : Sv} {ds : List D32} (h : Sds w2 s ds) (H : Loc w1 D L w) (hf : ∀ ad, s.A = some ad → w.heap.size ≤ ad.block) : SdD w2 (Rest w2 L) s ds :=
  ⟨h, fun hne ad e => H.fresh (hf ad e) (h.rd.lt ((xk1 D32.cl (by decide)).2 hne) e)⟩
theorem SdD.turn {s : Sv} {ds : List D32} (h : SdD w1 D s ds) (H : Loc w1 D L w) (hb : Below w.heap.size w w2) : SdD w2 (Rest w2 L) s ds :=
  ⟨(h.at H).below hb, fun hne ad e => H.restD hb (h.d hne ad e)⟩
theorem KyD.old {A : Option Addr} {n c : Nat} {ks : List D32} (h : KyS w A n c ks) : KyD (Old w) w A n c ks := ⟨h, fun hne ad e => h.rd.lt ((xk1 D32.cl (by decide)).2 hne) e⟩
theorem KyD.turn {A : Option Addr} {n c : Nat} {ks : List D32} (h : KyD D w1 A n c ks) (H : Loc w1 D L w) (hb : Below w.heap.size w w2) : KyD (Rest w2 L) w2 A n c ks := ⟨(h.at H).below hb, fun hne ad e => H.restD hb (h.d hne ad e)⟩
theorem BrD.turn {sv : Sv} {bs : List Brv} (h : BrD D w1 sv bs) (H : Loc w1 D L w) (hb : Below w.heap.size w w2) : BrD (Rest w2 L) w2 sv bs := ⟨(h.at H).below hb, fun hne ad e => H.restD hb (h.d hne ad e)⟩
theorem BrD.fresh {sv : Sv} {bs : List Brv} (h : BrS w2 sv bs) (H : Loc w1 D L w) (hf : ∀ ad, sv.A = some ad → w.heap.size ≤ ad.block) : BrD (Rest w2 L) w2 sv bs := ⟨h, fun hne ad e => H.fresh (hf ad e) (h.rd.lt ((xk1 Brv.len (by decide)).2 hne) e)⟩
structure TrD (w1 : World) (D : Nat → Prop) (sv : Sv) (vs : List Sv) (ls : List (List UInt8)) : Prop where
  rd : Rd w1 sv.A (vs.map Sv.v)
  d : vs ≠ [] → ∀ ad, sv.A = some ad → D ad.block
  len : vs.length = ls.length
  tx : ∀ (i : Nat) (v : Sv) (l : List UInt8), vs[i]? = some v → ls[i]? = some l → TxD w1 D v l
  n : ls.length = sv.n
  cap : sv.n ≤ sv.c
theorem map_ne {α β : Type} {f : α → β} {xs : List α} : xs.map f ≠ [] ↔ xs ≠ [] := by cases xs <;> simp
theorem TrD.at {sv : Sv} {vs : List Sv} {ls : List (List UInt8)} (h : TrD w1 D sv vs ls) (H : Loc w1 D L w) : TxR 0 w sv ls :=
  ⟨⟨vs, h.rd.keepE H (fun hne ad e => h.d (map_ne.1 hne) ad e), h.len, fun i v l hv hl => ⟨(h.tx i v l hv hl).at H, fun _ _ => Nat.zero_le _⟩⟩, fun _ _ => Nat.zero_le _, h.n, h.cap⟩
theorem TrD.turn {sv : Sv} {vs : List Sv} {ls : List (List UInt8)} (h : TrD w1 D sv vs ls) (H : Loc w1 D L w) (hb : Below w.heap.size w w2) : TrD w2 (Rest w2 L) sv vs ls :=
  ⟨(h.rd.keepE H (fun hne ad e => h.d (map_ne.1 hne) ad e)).below hb, fun hne ad e => H.restD hb (h.d hne ad e), h.len, fun i v l hv hl => (h.tx i v l hv hl).turn H hb, h.n, h.cap⟩
theorem TrD.fresh {sv : Sv} {ls : List (List UInt8)} (h : TxR w.heap.size w2 sv ls) (H : Loc w1 D L w) : ∃ vs, TrD w2 (Rest w2 L) sv vs ls := by
  obtain ⟨vs, h1, h2⟩ := h.ex; exact ⟨vs, h1, fun hne ad e => H.fresh (h.far ad e) (h1.lt (map_ne.2 hne) e), h2.len, fun i v l hv hl => TxD.fresh (h2.tx i v l hv hl).1 H (h2.tx i v l hv hl).2, h.len, h.cap⟩
structure PaD (w1 : World) (D : Nat → Prop) (sv : Sv) (ks : List D32) (ls : List (List UInt8)) (ps : List Par) : Prop where
  rd : Rd w1 sv.A (ps.flatMap Par.cells)
  d : ps ≠ [] → ∀ ad, sv.A = some ad → D ad.block
  n : ps.length = sv.n
  cap : sv.n ≤ sv.c
  key : ps.map Par.key = ks
  len : ps.length = ls.length
  tx : ∀ (i : Nat) (h : i < ps.length), TxD w1 D ps[i].val (ls.getD i [])
theorem PaD.fresh {sv : Sv} {ks : List D32} {ls : List (List UInt8)} {ps : List Par} (h : PaR w.heap.size w2 sv ks ls ps) (H : Loc w1 D L w) : PaD w2 (Rest w2 L) sv ks ls ps := by
  have hl := h.val.len; rw [List.length_map] at hl; refine ⟨h.rd, fun hne ad e => H.fresh (h.far ad e) (h.rd.lt ((xk1 Par.len (by decide)).2 hne) e), h.len, h.cap, h.key, hl, fun i hi => ?_⟩; have hil : i < ls.length := by omega
  have h1 := h.val.tx i ps[i].val (ls.getD i []) (by simp [hi]) (by simp [List.getD, hil]); exact TxD.fresh h1.1 H h1.2
theorem PaD.turn {sv : Sv} {ks : List D32} {ls : List (List UInt8)} {ps : List Par} (h : PaD w1 D sv ks ls ps) (H : Loc w1 D L w) (hb : Below w.heap.size w w2) : PaD w2 (Rest w2 L) sv ks ls ps :=
  ⟨(h.rd.keepE H (fun hne ad e => h.d ((xk1 Par.len (by decide)).1 hne) ad e)).below hb, fun hne ad e => H.restD hb (h.d hne ad e), h.n, h.cap, h.key, h.len, fun i hi => (h.tx i hi).turn H hb⟩
theorem PaD.at_ {sv : Sv} {ks : List D32} {ls : List (List UInt8)} {ps : List Par} (h : PaD w1 D sv ks ls ps) (i : Nat) (hi : i < ps.length) : ∃ ad, sv.A = some ad ∧ ∀ (L : List (Nat × Nat × List Value)) (W : World), Loc w1 D L W → Rd W (some (ad.add (i * 33))) ps[i].cells := by
  obtain ⟨ad, e, _⟩ := h.rd (by rw [xbx Par.len]; omega); refine ⟨ad, e, fun L W hW => ?_⟩; have h1 := h.rd.keepE hW (fun hne ad e => h.d ((xk1 Par.len (by decide)).1 hne) ad e); have h2 := h1.cut (i * 33) 33; have h3 := xda (f := Par.cells) Par.len ps [] i hi; rw [List.append_nil] at h3; rw [h3, e] at h2; exact h2
def ClD (root key : D32) (w1 : World) (D : Nat → Prop) (x : Clm) : Prop := ∃ lw lb, ClmT w1 x lw lb ∧ accC root key x.there lw lb = true ∧ (lw ≠ [] → ∀ ad, x.val.A = some ad → D ad.block) ∧ (lb ≠ [] → ∀ ad, x.byt.A = some ad → D ad.block)
theorem ClD.at {root key : D32} {x : Clm} (h : ClD root key w1 D x) (H : Loc w1 D L w) : ∃ lw lb, ClmT w x lw lb ∧ accC root key x.there lw lb = true := by
  obtain ⟨lw, lb, h1, h2, h3, h4⟩ := h; exact ⟨lw, lb, ⟨TxD.at ⟨h1.val, h3⟩ H, TxD.at ⟨h1.byt, h4⟩ H, h1.nv, h1.nb, h1.bare⟩, h2⟩
theorem ClD.turn {root key : D32} {x : Clm} (h : ClD root key w1 D x) (H : Loc w1 D L w) (hb : Below w.heap.size w w2) : ClD root key w2 (Rest w2 L) x := by
  obtain ⟨lw, lb, h1, h2, h3, h4⟩ := h; have a := TxD.turn ⟨h1.val, h3⟩ H hb; have b := TxD.turn ⟨h1.byt, h4⟩ H hb; exact ⟨lw, lb, ⟨a.tx, b.tx, h1.nv, h1.nb, h1.bare⟩, h2, a.d, b.d⟩
theorem ClD.fresh {root key : D32} {x : Clm} {v : Sv} {lv lw lb : List UInt8} (H : Loc w1 D L w) (hb : Below w.heap.size w w2) (hv : TxD w1 D v lv) (h1 : ClmT w2 x lw lb) (h2 : accC root key x.there lw lb = true) (h3 : lw ≠ [] → x.val = v ∧ lw = lv) (h4 : ∀ ad, x.byt.A = some ad → w.heap.size ≤ ad.block) : ClD root key w2 (Rest w2 L) x :=
  ⟨lw, lb, h1, h2, fun hne ad e => by
    obtain ⟨e1, e2⟩ := h3 hne; subst e2; rw [e1] at e
    exact H.restD hb (hv.d hne ad e), fun hne ad e => H.fresh (h4 ad e) (h1.byt.rd.lt (xnt hne) e)⟩
structure BelD (w0 w1 : World) (D : Nat → Prop) : Prop where
  bel : Below w0.heap.size w0 w1
  d : ∀ k, k < w0.heap.size → D k
theorem BelD.old (w : World) : BelD w w (Old w) := ⟨Below.refl _ w, fun k hk => hk⟩
theorem BelD.at {w0 : World} (h : BelD w0 w1 D) (H : Loc w1 D L w) : Below w0.heap.size w0 w :=
  Fr.to_below (S := fun _ => False) ⟨H.fr.os.trans h.bel.os, H.fr.tape.trans h.bel.tape, H.fr.output.trans h.bel.output, Nat.le_trans h.bel.size H.fr.size, fun k hk _ => (H.heap (h.d k hk)).trans (h.bel.block k hk)⟩ (fun k _ hn => hn.elim)
theorem BelD.turn {w0 : World} (h : BelD w0 w1 D) (H : Loc w1 D L w) (hb : Below w.heap.size w w2) : BelD w0 w2 (Rest w2 L) :=
  ⟨(h.at H).trans (hb.mono (h.at H).size), fun k hk => H.restD hb (h.d k hk)⟩
structure Kp (w1 : World) (D : Nat → Prop) (w0 : World) (value other sketch stretch : Sv) (A : Option Addr) (n c : Nat) (lv lo lk lt : List UInt8) (ks : List D32) : Prop where
  v : TxD w1 D value lv
  o : TxD w1 D other lo
  m : TxD w1 D sketch lk
  t : TxD w1 D stretch lt
  k : KyD D w1 A n c ks
  b : BelD w0 w1 D
theorem Kp.turn {w0 : World} {value other sketch stretch : Sv} {A : Option Addr} {n c : Nat} {lv lo lk lt : List UInt8} {ks : List D32} (h : Kp w1 D w0 value other sketch stretch A n c lv lo lk lt ks) (H : Loc w1 D L w) (hb : Below w.heap.size w w2) : Kp w2 (Rest w2 L) w0 value other sketch stretch A n c lv lo lk lt ks :=
  ⟨h.v.turn H hb, h.o.turn H hb, h.m.turn H hb, h.t.turn H hb, h.k.turn H hb, h.b.turn H hb⟩
structure ClL (root key : D32) (w1 : World) (D : Nat → Prop) (G : List (Nat × Nat × List Value)) (sv : Sv) (xs : List Clm) : Prop where
  g : Gw 39 3 G sv xs.length (xs.flatMap Clm.cells)
  x : ∀ x ∈ xs, ClD root key w1 D x
theorem ClL.turn {root key : D32} {G : List (Nat × Nat × List Value)} {sv : Sv} {xs : List Clm} (h : ClL root key w1 D G sv xs) (H : Loc w1 D L w) (hb : Below w.heap.size w w2) : ClL root key w2 (Rest w2 L) G sv xs := ⟨h.g, fun x hx => (h.x x hx).turn H hb⟩
theorem ClL.more {root key : D32} {G G' : List (Nat × Nat × List Value)} {sv sv' : Sv} {xs : List Clm} {x : Clm} (h : ClL root key w1 D G sv xs) (hx : ClD root key w1 D x) (hg : Gw 39 3 G' sv' (xs.length + 1) (xs.flatMap Clm.cells ++ x.cells)) : ClL root key w1 D G' sv' (xs ++ [x]) := by
  refine ⟨?_, fun y hy => ?_⟩
  · rw [List.length_append, List.flatMap_append]
    simpa using hg
  · rcases List.mem_append.1 hy with hy | hy
    · exact h.x y hy
    · rw [List.mem_singleton.1 hy]; exact hx
end
section
variable {w1 w w2 u : World} {D : Nat → Prop} {L L' Lc : List (Nat × Nat × List Value)} {N : Nat}
theorem ClD.made {root key : D32} {x : Clm} {v : Sv} {lv : List UInt8} (H : Loc w1 D L w) (hb : Below w.heap.size w w2) (hv : TxD w1 D v lv) (h : ∃ lw lb, ClmT w2 x lw lb ∧ accC root key x.there lw lb = true ∧ (lw ≠ [] → x.val = v ∧ lw = lv) ∧ ∀ ad, x.byt.A = some ad → w.heap.size ≤ ad.block) : ClD root key w2 (Rest w2 L) x := by
  obtain ⟨lw, lb, h1, h2, h3, h4⟩ := h; exact ClD.fresh H hb hv h1 h2 h3 h4
theorem KyD.get {A : Option Addr} {n c : Nat} {ks : List D32} (h : KyD D w1 A n c ks) (i : Nat) (hi : i < ks.length) : ∃ ad, A = some ad ∧ ∀ (L : List (Nat × Nat × List Value)) (W : World), Loc w1 D L W → Rd W (some (ad.add (i * 32))) ks[i].c := by
  obtain ⟨ad, e, _⟩ := h.s.at_ i hi; refine ⟨ad, e, fun L W hW => ?_⟩; obtain ⟨ad', e', h'⟩ := (h.at hW).at_ i hi; rw [e] at e'; cases e'; exact h'
theorem Loc.back3 (H : Loc w1 D L w) (hb : Below w.heap.size w w2) (H2 : Loc w2 (Rest w2 L) L' u) (h1 : Lc.Sublist L') (h2 : Lc.Sublist L) : Loc w1 D Lc u :=
  ⟨(H.back2 hb H2).fr, fun x hx => ⟨(H.own x (h2.subset hx)).1, (H2.own x (h1.subset hx)).2⟩, H.nd.sublist h2, H.old⟩
theorem pkdec_sv (s : Sv) (l : List UInt8) (w : World) (h : Tx w s.A s.n s.c l) (hn : s.n ≤ 140737488351232) : Calls Tryz.prog 7 #[s.v] w (PkD w.heap.size w l) := xl0 s.A s.n s.c l w h hn
theorem xp4 (s : Sv) (l : List UInt8) (w : World) (h : Tx w s.A s.n s.c l) (hn : s.n ≤ 140737488351232) : Calls Tryz.prog 12 #[s.v] w (SdO w.heap.size w) := xns s.A s.n s.c l w h hn
theorem xp5 (A : Option Addr) (n c : Nat) (ks : List D32) (ps : Sv) (bs : List Brv) (h0 : D32) (hq : rdQ ks bs = some h0) (i : Nat) (hi : i < n) (w : World) (hK : KyS w A n c ks) (hB : BrS w ps bs) (hnn : n ≤ 140737488351232) :
    Calls Tryz.prog 11 #[.slice A n c, mval ps, .int .i64 (i : Int)] w fun e w' => ∃ (x : Prv) (ds : List D32), e = .returned (.tuple #[.agg x.cells.toArray, .int .i64 0]) ∧ Below w.heap.size w w' ∧ Sds w' x.sides ds ∧ ∀ ad, x.sides.A = some ad → w.heap.size ≤ ad.block := by
  refine (xno A n c ks ps bs i hi w hK hB hnn).mono ?_; rintro e w' ⟨x, er, rfl, hb, ⟨rfl, ds, h1, h2⟩ | ⟨_, h1⟩⟩
  · exact ⟨x, ds, rfl, hb, h1, h2⟩
  · rw [hq] at h1; cases h1
theorem xp6 (fr til key : D32) (sp : Spv) (bs : List Brv) (lvs : List (List UInt8)) (r : SpD) (hq : rdS fr til key bs lvs = some r) (hin : inB fr.l til.l key.l = true) (w : World) (hB : BrS w sp.parts bs) (hV : TxR 0 w sp.vals lvs) :
    Calls Tryz.prog 15 #[fr.a, til.a, .agg sp.cells.toArray, key.a] w fun e w' => ∃ (x : Prv), e = .returned (.tuple #[.agg x.cells.toArray, .int .i64 0]) ∧ Below w.heap.size w w' ∧ Sds w' x.sides r.sides.reverse ∧ (∀ ad, x.sides.A = some ad → w.heap.size ≤ ad.block) ∧ x.nod = finD ⟨0, D32.z, D32.z, D32.z, D32.z⟩ r.fin := by
  refine (xnr fr til key sp bs lvs w hB hV).mono ?_; rintro e w' ⟨x, er, rfl, hb, ⟨rfl, _, r2, h1, h2, h3, h4⟩ | ⟨_, h1⟩⟩
  · rw [hq] at h1
    injection h1 with h1; subst h1; exact ⟨x, rfl, hb, h2, h3, h4⟩
  · rcases h1 with h1 | h1
    · rw [hq] at h1; cases h1
    · rw [hin] at h1; cases h1
theorem xrn (root key : D32) (p : Prv) (ds : List D32) (v : Sv) (lv : List UInt8) (w : World) (hg : Good root key p ds lv) (hs : Sds w p.sides ds) (hv : Tx w v.A v.n v.c lv) :
    Calls Tryz.prog 8 #[root.a, key.a, .agg p.cells.toArray, v.v] w fun e w' => ∃ (x : Clm), e = .returned (.tuple #[.agg x.cells.toArray, .bool true]) ∧ Below w.heap.size w w' ∧ ∃ lw lb, ClmT w' x lw lb ∧ accC root key x.there lw lb = true ∧ (lw ≠ [] → x.val = v ∧ lw = lv) ∧ ∀ ad, x.byt.A = some ad → w.heap.size ≤ ad.block := by
  refine (xgg root key p ds v lv w hs hv).mono ?_; rintro e w' ⟨x, ok, rfl, hb, h1, h2⟩; have h3 := h2 hg; subst h3; exact ⟨x, rfl, hb, h1 rfl⟩
theorem ents_uni {fr til key : D32} {bs : List Brv} {ls : List (List UInt8)} {r : SpD} (h : rdS fr til key bs ls = some r) (hin : inB fr.l til.l key.l = true) {v v' : D32} (h1 : (key, v) ∈ r.ents) (h2 : (key, v') ∈ r.ents) : v = v' := by
  obtain ⟨_, _, h3, _, _, _, _⟩ := xe9 h; have h8 := xl9 fr til key 256 bs D32.z 0 r h3; obtain ⟨ho, _⟩ := xkm shaL xbb (spW fr.l til.l key.l) TopZ (spW_ok fr.l til.l key.l key.h hin) 256 (bs.map brOf) zb32 0 (spOf r) rfl xl1 (by intro b hb; obtain ⟨y, _, rfl⟩ := List.mem_map.1 hb; exact y.dig.h) h8; have a := ho.uni v.l (List.mem_map.2 ⟨(key, v), h1, rfl⟩); have b := ho.uni v'.l (List.mem_map.2 ⟨(key, v'), h2, rfl⟩); rw [a] at b; injection b with b; exact D32.ext (congrArg Prod.snd b)
def LastV (ks : List D32) (ls : List (List UInt8)) (key : D32) (i : Nat) (l0 l : List UInt8) : Prop := (l = l0 ∧ ∀ j, j < i → (ks.getD j D32.z).l ≠ key.l) ∨ ∃ j, j < i ∧ (ks.getD j D32.z).l = key.l ∧ l = ls.getD j []
theorem LastV.yes {ks : List D32} {ls : List (List UInt8)} {key : D32} {i : Nat} {l0 : List UInt8} (h : (ks.getD i D32.z).l = key.l) : LastV ks ls key (i + 1) l0 (ls.getD i []) := .inr ⟨i, by omega, h, rfl⟩
theorem LastV.no {ks : List D32} {ls : List (List UInt8)} {key : D32} {i : Nat} {l0 l : List UInt8} (h : LastV ks ls key i l0 l) (hn : (ks.getD i D32.z).l ≠ key.l) : LastV ks ls key (i + 1) l0 l := by
  rcases h with ⟨h1, h2⟩ | ⟨j, h1, h2, h3⟩
  · refine .inl ⟨h1, fun j hj => ?_⟩
    by_cases e : j = i
    · subst e; exact hn
    · exact h2 j (by omega)
  · exact .inr ⟨j, by omega, h2, h3⟩
theorem LastV.fits {fr til key : D32} {bs : List Brv} {ls : List (List UInt8)} {r : SpD} {l0 l : List UInt8} {n : Nat} (h : rdS fr til key bs ls = some r) (hin : inB fr.l til.l key.l = true) (hn : n = ls.length) (hl : LastV (r.ents.map Prod.fst) ls key n l0 l) : ∀ v, (key, v) ∈ r.ents → v.l = (tagV l).l ∧ l.length ≤ 1024 := by
  intro v hv; obtain ⟨_, _, _, _, h5, h6, _⟩ := xe9 h; rcases hl with ⟨_, h2⟩ | ⟨j, h1, h2, rfl⟩
  · obtain ⟨i, hi, e⟩ := List.mem_iff_getElem.1 hv
    exfalso; refine h2 i (by omega) ?_; rw [List.getD_eq_getElem?_getD, List.getElem?_map, List.getElem?_eq_getElem hi, e]; rfl
  · have hj : j < r.ents.length := by omega
    obtain ⟨g1, g2⟩ := (xe8 _ _).1 h6 j (by omega); refine ⟨?_, g1⟩; rw [g2]
    have e1 : (r.ents.map Prod.snd).getD j D32.z = r.ents[j].2 := by
      rw [List.getD_eq_getElem?_getD, List.getElem?_map, List.getElem?_eq_getElem hj]; rfl
    have e2 : (r.ents.map Prod.fst).getD j D32.z = r.ents[j].1 := by
      rw [List.getD_eq_getElem?_getD, List.getElem?_map, List.getElem?_eq_getElem hj]; rfl
    rw [e2] at h2; have e3 : r.ents[j].1 = key := D32.ext h2; have hm : (key, r.ents[j].2) ∈ r.ents := by rw [← e3]; exact List.getElem_mem hj
    rw [e1, ents_uni h hin hv hm]
theorem ClL.get {root key : D32} {G : List (Nat × Nat × List Value)} {sv : Sv} {xs : List Clm} (h : ClL root key w1 D G sv xs) (h0 : 0 < xs.length) : ∃ g cap, sv.v = .slice (some ⟨g, 0, none⟩) xs.length cap ∧ ∀ (L : List (Nat × Nat × List Value)) (W : World), (∀ y ∈ G, y ∈ L) → Loc w1 D L W → ∀ (i : Nat) (hi : i < xs.length), Rd W (some ((⟨g, 0, none⟩ : Addr).add (i * 3))) xs[i].cells := by
  obtain ⟨hl, ⟨_, _, h1⟩ | ⟨g, cap, tl, rfl, rfl, h2, h3, h4⟩⟩ := h.g
  · omega
  refine ⟨g, cap, rfl, fun L W hm hW i hi => ?_⟩; have hg : Gw 39 3 [(g, 39, xs.flatMap Clm.cells ++ tl)] ⟨some ⟨g, 0, none⟩, xs.length, cap⟩ xs.length (xs.flatMap Clm.cells) := ⟨hl, .inr ⟨g, cap, tl, rfl, rfl, h2, h3, h4⟩⟩; have h5 := (hg.rdm hm hW).cut (i * 3) 3; have h6 := xda (f := Clm.cells) Clm.len xs [] i hi; rw [List.append_nil] at h6; rw [h6] at h5; exact h5
end
section
variable {D : Nat → Prop} {w w' : World} {gs g : Nat} {σ : Sb} {vs vf : Sv}
theorem xro {P : Program} {w : World} {a : Act} {o : Oper} {t t' : TypeId} {b : Bool} (x y : Operand) (ho : o.op = .binOp .neq t x y t') (m n : Int) (hx : a.eval x = .int .u8 m) (hy : a.eval y = .int .u8 n) (h : (m == n) = !b) :
    (execOp a.eval o).run P w = .ok (.value (.bool b)) w := by
  unfold execOp; simp only [ho, hx, hy]; go_simp; cases b <;> simp_all
theorem find_yes (h : StW D w gs σ) (root : Int) (key : D32) (way : List Int) (fin : Int) (hway : Way σ key root way fin) (hl : way.length ≤ 4096)
    (hroot : ∀ u, StW D u gs σ → Calls Tryz.prog 154 #[.pointer (some ⟨gs, 0, none⟩), .int .i64 root] u fun e w' => e = .returned (.int .i64 0) ∧ Below u.heap.size u w')
    (n : Nd) (val : List UInt8) (ok : Bool) (hG : Got σ fin n val ok) (hk : n.kind = 1) (hne : n.key.l = key.l) (hvl : val.length ≤ 1024) :
    Calls Tryz.prog 93 #[.pointer (some ⟨gs, 0, none⟩), .int .i64 root, key.a] w fun e w' => ∃ v, e = .returned (.tuple #[v, .bool true, .int .i64 0]) ∧ OwnB w' w.heap.size 5 v val ∧ Below w.heap.size w w' := by
  have HH := hZ h; have HR := hZ hroot; have HW := hZ hway; have HG := hZ hG; have k1 : ((n.kind : Int) == 1) = !false := by rw [hk]; rfl
  have HNE : Hid ((!(n.key.l == key.l)) = false) := hZ (by simpa using hne); clear h hroot hway hG hk hne; have HL := Loc.start w; obtain ⟨w0, rfl⟩ := eW w; go_enter Tryz.func93, Tryz.ntmps93; go_upto_region 0 with fail; refine Xv ?_; refine X2x ?_; clear HL; intro g5 w HL; refine X5 ?_; refine X6u ?_; have hg5 : w0.heap.size ≤ g5 := Nat.le_of_not_lt (HL.own _ (.head _)).1; go_upto_region 1 with fail; refine X1b ?_; refine X6i ?_; refine X57 ?_; intro K hK; refine xad cf152 rfl _ rfl ?_; refine X1z ?_; refine X7a ?_; rintro e w ⟨v, rfl, ho, hvb, hb⟩; replace HL := HL.next hb; clear hb ho hvb; refine X7b ?_; clear hK K; refine X6u ?_; have hK0 : Blk w g5 24 key.c := HL.blk (.head _); have hB0 : Below w0.heap.size w0 w := HL.below; clear HL; have HL := Loc.start w; obtain ⟨w1, rfl⟩ := eW w; go_upto_region 2 with fail
  refine rB (Loc.P HL) [] [5, 11] [0, 1, 2, 3, 4, 5, 6, 7, 8, 9, 10, 12, 11, 13, 14] 0 ?_; refine X39 ?_; intro HL; refine X3e ?_; refine X6k ?_; refine X38 ?_; refine Xj ?_; intro K hK; refine X6y ?_; (with_reducible refine (xjf (HH.out.below (hB0.trans (HL.below.mono hB0.size))) _ n val ok HG.out).mono ?_); refine X6s ?_; clear hK K; intro w HL; refine xac rfl rfl HL (fun W hW => xro _ _ rfl _ _ rfl rfl k1) ?_; refine X3f ?_; refine X6k ?_; refine X38 ?_; refine xac rfl rfl HL (fun W hW => xgc ag24 hW _ rfl _ _ rfl _ _ _ hK0.lt hK0 (by rw [List.drop_zero, List.take_of_length_le (by rw [D32.cl]; omega)]) (D32.cl _)) ?_; refine Xk ?_; intro K hK; refine xad cf148 rfl _ rfl ?_; refine X1z ?_; (with_reducible refine (xqw (HH.out.below (hB0.trans (HL.below.mono hB0.size))) _ n val ok HG.out).mono ?_); refine X6s ?_; clear hK K; intro w HL
  refine xac rfl rfl HL (fun W hW => xdn ab23 _ _ rfl n.key key rfl rfl _ HNE.out) ?_; refine X3g ?_; go_upto_region 4 with fail; refine X2n ?_; intro K hK; refine xad cf153 rfl _ rfl ?_; refine X1z ?_; (with_reducible refine (st_value (HH.out.below (hB0.trans (HL.below.mono hB0.size))) _ n val ok HG.out hvl).mono ?_); rintro e w ⟨v, rfl, hov, hb⟩; have hsz : w0.heap.size ≤ w.heap.size := Nat.le_trans hB0.size (Nat.le_trans HL.fr.size hb.size); have hov2 := hov.mono (Nat.le_trans hB0.size HL.fr.size); replace HL := HL.next hb; clear hb hov; refine X5q ?_; clear hK K; refine X6u ?_; go_wp2_with fail
  go_ret3
  exact ⟨v, rfl, hov2, hB0.trans (HL.below.mono hB0.size)⟩
theorem join_one (h : StP D w gs g σ vs vf) (d : Nat) (hd : d < 256) (key : D32) (own other z : Int) (σ' : Sb) (hb : tb key.l d = true)
    (hI : ∀ u, StP D u gs g σ vs vf → Calls Tryz.prog 210 #[.pointer (some ⟨gs, 0, none⟩), .int .i64 (d : Int), .int .i64 other, .int .i64 own] u (Goes D u gs g (.tuple #[.int .i64 z, .int .i64 0]) σ')) :
    Calls Tryz.prog 149 #[.pointer (some ⟨gs, 0, none⟩), .int .i64 (d : Int), key.a, .int .i64 own, .int .i64 other] w (Goes D w gs g (.int .i64 z) σ') := by
  have HH := hZ h; have HI := hZ hI; have C := fun u => hZ (xf0 u key d hd)
  rw [hb] at C; clear h hI hb; have HL := Loc.start w; obtain ⟨w0, rfl⟩ := eW w; go_enter Tryz.func149, Tryz.ntmps149; go_upto_region 0 with fail; refine Xv ?_; refine xc2 rfl _ rfl HL _ rfl ?_; clear HL; intro g7 w HL; refine X1c ?_; go_upto_region 1 with fail; refine X1b ?_; refine X1i ?_; go_upto_region 2 with fail; refine X6j ?_; refine X4a ?_; intro K hK; refine X5m ?_; refine X4d ?_; clear hK K; intro w HL; refine X2c ?_; go_upto_region 3 with fail; refine X1b ?_; refine X1i ?_; go_upto_region 4 with fail; refine X6f ?_; refine Xam ?_; intro K hK; refine xad cf210 rfl _ rfl ?_; refine X1z ?_; (with_reducible refine (HI.out _ (HH.out.below HL.below)).mono ?_); rintro e w ⟨D', vs', vf', rfl, hP, hS⟩; have hS2 := (Stp.of_below HL.below).trans hS; clear HL hS; refine X6o ?_; clear hK K; go_upto_region 5 with fail; refine X6x ?_; go_wp2_with fail; go_ret
  exact ⟨_, _, _, rfl, hP, hS2⟩
end
section
variable {D : Nat → Prop} {w w' : World} {gs g : Nat} {σ : Sb} {vs vf : Sv}
theorem Loc.goes {w0 w w' : World} {D0 D D' : Nat → Prop} {L : List (Nat × Nat × List Value)} (H : Loc w0 (fun k => Old w0 k ∧ ¬ D0 k) L w) (hA : (∀ k, D k → ¬ (Old w0 k ∧ ¬ D0 k)) ∧ ∀ y ∈ L, ¬ D y.1) (hs : Stp D w D' w') :
    Loc w0 (fun k => Old w0 k ∧ ¬ D0 k) L w' ∧ ((∀ k, D' k → ¬ (Old w0 k ∧ ¬ D0 k)) ∧ ∀ y ∈ L, ¬ D' y.1) := by
  refine ⟨H.frame hs.fr hA.1 hA.2, fun k hk => ?_, fun y hy hk => ?_⟩
  · rcases hs.new k hk with h1 | h1
    · exact hA.1 k h1
    · have := H.fr.size
      unfold Old; omega
  · rcases hs.new _ hk with h1 | h1
    · exact hA.2 y hy h1
    · have := (H.own y hy).2.lt
      omega
theorem got0 : Got σ 0 Nd.z [] false := Or.inr ⟨rfl, by omega, rfl, rfl⟩
theorem way0 (key : D32) : Way σ key 0 [] 0 := .stop _ _ _ false got0 (by decide)
theorem root0 : ∀ u, StW D u gs σ → Calls Tryz.prog 154 #[.pointer (some ⟨gs, 0, none⟩), .int .i64 0] u fun e w' => e = .returned (.int .i64 0) ∧ Below u.heap.size u w' := fun u hu =>
  (xo0 hu).mono (by rintro e w' ⟨rfl, rfl⟩; exact ⟨rfl, Below.refl _ _⟩)
theorem rootL (z : Int) (n : Nd) (val : List UInt8) (hG : Got σ z n val true) (hd : n.kind = 1) : ∀ u, StW D u gs σ → Calls Tryz.prog 154 #[.pointer (some ⟨gs, 0, none⟩), .int .i64 z] u fun e w' => e = .returned (.int .i64 0) ∧ Below u.heap.size u w' := fun u hu =>
  xm9 hu z n val hG (.inl hd)
theorem wayL (key : D32) (z : Int) (n : Nd) (val : List UInt8) (hG : Got σ z n val true) (hd : n.kind = 1) : Way σ key z [] z := .stop _ _ _ true hG (by rw [hd]; decide)
theorem fits1 (h : StW D w gs σ) (hr : 1 ≤ σ.room ∧ σ.room ≤ 65536) (hu : σ.used + 258 ≤ σ.room) :
    Calls Tryz.prog 144 #[.pointer (some ⟨gs, 0, none⟩), .int .i64 1] w fun e w' => e = .returned (.bool true) ∧ w = w' :=
  fits_ok h hr 1 (by omega) (by omega) true (by simp; omega)
theorem xuu (h : StP D w gs g σ vs vf) (key : D32) (A : Option Addr) (n c : Nat) (val : List UInt8) (hr : Rd w A (bvs val)) (hn : val.length = n ∧ n ≤ c ∧ c ≤ maxLen ∧ n ≤ 1024) (hfit : σ.used + 258 ≤ σ.room) :
    Calls Tryz.prog 90 #[.pointer (some ⟨gs, 0, none⟩), .int .i64 0, key.a, .slice A n c] w (Took D w gs g σ fun x => ⟨xc7 key val x, 1, val⟩) := by
  have HH := hZ h; have hcs := h.sb.ok; have r1 := hcs.r1; have r2 := hcs.r2; clear hcs; have HN := hZ hn; have HF := hZ hfit; have HR := hZ hr; have kroom : ((σ.room : Int) == 0) = false := by simp; omega
  have klen : decide ((1024 : Int) < (n : Int)) = false := by simp; omega
  have hDO : ∀ k, D k → k < w.heap.size := h.sb.lt; clear h hn hr hfit; have HL := Loc.start w; obtain ⟨w0, rfl⟩ := eW w; go_enter Tryz.func90, Tryz.ntmps90; go_upto_region 0 with fail; refine Xv ?_; refine X76 ?_; clear HL; intro g6 w HL; refine X1j ?_; go_upto_region 1 with fail; refine X1y ?_; intro K hK; refine X70 ?_; (with_reducible refine (xho (HH.out.below HL.below).sw).mono ?_); rintro e w ⟨rfl, rfl⟩; refine X5q ?_; clear hK K; refine Xme ?_; go_upto_region 3 with fail; refine Xmf ?_; refine X22 ?_; go_upto_region 5 with fail; refine X2n ?_; intro K hK; refine xad cf143 rfl _ rfl ?_; refine X1z ?_; (with_reducible refine (athand0 (HH.out.below HL.below).sw).mono ?_); rintro e w ⟨rfl, rfl⟩; refine X2q ?_; clear hK K; go_upto_region 6 with fail; refine X2r ?_; go_upto_region 8 with fail; refine X1y ?_; intro K hK; refine xad cf144 rfl _ rfl ?_; refine Xmg ?_
  rintro e w ⟨rfl, rfl⟩; refine X21 ?_; clear hK K; refine X2c ?_; go_upto_region 10 with fail; refine X1b ?_; refine X6i ?_; refine X4a ?_; intro K hK; refine xad cf145 rfl _ rfl ?_; refine X1z ?_; (with_reducible refine (xt0 (HH.out.below HL.below).sw 0 key A n c [] 0 (way0 _) (by simp) root0 Nd.z [] false got0 (by decide)).mono ?_); rintro e w ⟨v, rfl, ho, hvb, hb⟩; replace HL := HL.next hb; have hvn := xe5 ho; obtain ⟨vA, vn, vc⟩ := v; simp only [qs] at hvn; subst hvn; clear hb ho hvb; refine X5q ?_; clear hK K; refine xah zr246 rfl rfl HL ?_; clear HL; intro g11 w HL; refine X5 ?_; refine X7p ?_; refine X3j ?_; clear HL; intro w HL; go_upto_region 11 with fail; refine Xv ?_; refine xaa rfl _ (xaf xjc _ rfl _ rfl) ?_; refine X5 ?_; refine Xmh ?_; have hP := HH.out.below HL.below; have hS0 : Stp D w0 D w := Stp.of_below HL.below
  have hrd := HL.rdO HR.out; have HA : (∀ k, D k → ¬ (Old w0 k ∧ ¬ D k)) ∧ ∀ y ∈ [(g11, 246, Plc.cells ⟨⟨vA, 0, vc⟩, 0, false, false⟩), (g6, 24, key.c)], ¬ D y.1 := ⟨fun k hk hd => hd.2 hk, fun y hy hk => (HL.own y hy).1 (hDO _ hk)⟩; refine Xmi ?_; intro HX; clear HL; have HL := HX; clear HX; go_upto_region 13 with fail; refine X14 ?_; refine Xc3 ?_; intro K hK; refine xad cf146 rfl _ rfl ?_; refine X1z ?_; (with_reducible refine (xse hP key A n c val hrd HN.out.1 HN.out.2.1 HN.out.2.2.1 HN.out.2.2.2 (by have := HF.out; omega)).mono ?_); rintro e w ⟨D1, vs1, vf1, x, rfl, hP1, hst⟩; obtain ⟨HL2, HA2⟩ := HL.goes HA hst; clear HL HA; have HL := HL2; have HA := HA2; have hS1 := hS0.trans hst; clear HL2 HA2 hst hS0 hP hrd; refine X6o ?_; clear hK K; go_upto_region 14 with fail; refine Xv ?_; refine xaa rfl _ (xaf xjd _ rfl _ rfl) ?_; refine X5 ?_; refine Xmj ?_
  go_upto_region 22 with fail; refine Xv ?_; refine X7c ?_; refine X5 ?_; refine Xmk ?_; refine X5 ?_; refine X3m ?_; refine X1v ?_; go_wp2_with fail; refine wp_loop_rounds 1 ?_; rw [rounds_succ]; go_upto_region 23 with fail; refine X2r ?_; go_upto_region 32 with fail; refine X2r ?_; go_upto_region 34 with fail; refine X3s ?_; go_wp2_with fail; go_ret2; exact ⟨D1, vs1, vf1, x, rfl, hP1, hS1⟩
abbrev xk2 (k : D32) (v : List UInt8) (x : Sv) (h : Int) : Nd := { xc7 k v x with held := h }
def σA (k : D32) (v : List UInt8) (x : Sv) (room : Nat) : Sb := ⟨[⟨xc7 k v x, 1, v⟩], [], room, 1⟩
def σ2 (k : D32) (v : List UInt8) (x : Sv) (l : D32) (u : List UInt8) (y : Sv) (room : Nat) : Sb := ⟨[⟨xc7 k v x, 1, v⟩, ⟨xc7 l u y, 1, u⟩], [], room, 2⟩
def σB (k : D32) (v : List UInt8) (x : Sv) (l : D32) (u : List UInt8) (y : Sv) (room : Nat) : Sb := ⟨[⟨xk2 k v x 2, 2, v⟩, ⟨xc7 l u y, 1, u⟩], [], room, 2⟩
abbrev twoNd (k : D32) (v : List UInt8) (l : D32) (u : List UInt8) : Nd := xhp 0 k (tagL k (tagV v)) (tagL l (tagV u)) 1 2 2
def σC (k : D32) (v : List UInt8) (x : Sv) (l : D32) (u : List UInt8) (y : Sv) (room : Nat) : Sb := ⟨[⟨xk2 k v x 1, 2, v⟩, ⟨xk2 l u y 0, 1, u⟩, ⟨twoNd k v l u, 1, []⟩], [], room, 3⟩
def σD (k : D32) (v : List UInt8) (x : Sv) (l : D32) (u : List UInt8) (y : Sv) (room : Nat) : Sb := ⟨[⟨xk2 k v x 0, 1, v⟩, ⟨xk2 l u y 0, 1, u⟩, ⟨twoNd k v l u, 1, []⟩], [], room, 3⟩
section
variable {k l : D32} {v u : List UInt8} {x y : Sv} {room : Nat}
theorem leaf_two (h : StP D w gs g (σA k v x room) vs vf) (key : D32) (A : Option Addr) (n c : Nat) (val : List UInt8) (hr : Rd w A (bvs val)) (hl : val.length = n) (hcap : n ≤ c) (hmax : c ≤ maxLen) (hn : n ≤ 1024) (hroom : 1 < room) :
    Calls Tryz.prog 146 #[.pointer (some ⟨gs, 0, none⟩), key.a, .slice A n c] w fun e w' => ∃ D' vs' vf' y, e = .returned (.tuple #[.int .i64 2, .int .i64 0]) ∧ StP D' w' gs g (σ2 k v x key val y room) vs' vf' ∧ Stp D w D' w' :=
  (xse h key A n c val hr hl hcap hmax hn hroom).mono (by rintro e w' ⟨D', vs', vf', y, rfl, h1, h2⟩; exact ⟨D', vs', vf', y, rfl, h1, h2⟩)
theorem hold_two (h : StP D w gs g (σ2 k v x l u y room) vs vf) : Calls Tryz.prog 129 #[.pointer (some ⟨gs, 0, none⟩), .int .i64 1] w fun e w' => e = .returned (.int .i64 0) ∧ StP D w' gs g (σB k v x l u y room) vs vf ∧ Stp D w D w' :=
  (st_hold h 1 0 rfl (Nat.zero_lt_succ _) (show (0:Int) < 1 by decide) (show (1:Int) < 1073741824 by decide) (show -4611686018427387904 ≤ (1:Int) ∧ (1:Int) ≤ 4611686018427387900 by decide)).mono (by rintro e w' ⟨rfl, h1, h2⟩; exact ⟨rfl, h1, Stp.of_fr h2 fun k hk => h.sb.own k hk⟩)
theorem xuv (h : StP D w gs g (σB k v x l u y room) vs vf) (hk : tb k.l 0 = false) (hl : tb l.l 0 = true) (hroom : 2 < room) :
    Calls Tryz.prog 210 #[.pointer (some ⟨gs, 0, none⟩), .int .i64 ((0 : Nat) : Int), .int .i64 1, .int .i64 2] w (Goes D w gs g (.tuple #[.int .i64 3, .int .i64 0]) (σC k v x l u y room)) :=
  (xla h ⟨List.nodup_nil, fun n hn => by cases hn⟩ 0 (by omega) 0 1 rfl (Nat.zero_lt_succ _) (xk2 k v x 2) rfl (show (2:Int) ≠ 0 by decide) ⟨by show (tb k.l 0).toNat = 0; rw [hk]; rfl, fun e => by cases e⟩ (show (0:Int) < 2 ∧ (2:Int) ≤ 4611686018427387904 by decide) (show (0:Int) ≤ 1 ∧ (1:Int) ≤ 1073741824 by decide) 1 2 rfl (Nat.succ_lt_succ (Nat.zero_lt_succ _)) (xc7 l u y) rfl (show (1:Int) ≠ 0 by decide) ⟨by show (tb l.l 0).toNat = 1; rw [hl]; rfl, fun e => by cases e⟩ (show (0:Int) < 1 ∧ (1:Int) ≤ 4611686018427387904 by decide) (show (0:Int) ≤ 1 ∧ (1:Int) ≤ 1073741824 by decide) (by omega) (Nat.zero_le _) hroom).mono (by
    rintro e w' ⟨D', vs', vf', rfl, h1, h2⟩; exact ⟨D', vs', vf', rfl, h1, h2⟩)
theorem join_two (h : StP D w gs g (σB k v x l u y room) vs vf) (hk : tb k.l 0 = false) (hl : tb l.l 0 = true) (hroom : 2 < room) :
    Calls Tryz.prog 149 #[.pointer (some ⟨gs, 0, none⟩), .int .i64 0, l.a, .int .i64 2, .int .i64 1] w (Goes D w gs g (.int .i64 3) (σC k v x l u y room)) :=
  join_one h 0 (by omega) l 2 1 3 _ hl fun u hu => xuv hu hk hl hroom
theorem drop_two (h : StP D w gs g (σC k v x l u y room) vs vf) : Calls Tryz.prog 130 #[.pointer (some ⟨gs, 0, none⟩), .int .i64 1] w (Goes D w gs g (.tuple #[.int .i64 0, .int .i64 0]) (σD k v x l u y room)) :=
  (xna h 1 0 rfl (Nat.zero_lt_succ _) (show (1:Int) < 2 by decide) (show (2:Int) < 1099511627776 by decide) (show (0:Int) < 1 ∧ (1:Int) ≤ 4611686018427387904 by decide)).mono (by rintro e w' ⟨D', vs', vf', rfl, h1, h2⟩; exact ⟨D', vs', vf', rfl, h1, h2⟩)
theorem gotA : Got (σA k v x room) 1 (xc7 k v x) v true := .inl ⟨rfl, 0, rfl, Nat.zero_lt_succ _, rfl, rfl, (show (1:Int) ≠ 0 by decide)⟩
theorem got2 : Got (σ2 k v x l u y room) 1 (xc7 k v x) v true := .inl ⟨rfl, 0, rfl, Nat.zero_lt_succ _, rfl, rfl, (show (1:Int) ≠ 0 by decide)⟩
end
theorem xrp (k1 : D32) (v1 : List UInt8) (x1 : Sv) (room : Nat) (h : StP D w gs g (σA k1 v1 x1 room) vs vf) (key : D32) (A : Option Addr) (n c : Nat) (val : List UInt8) (hr : Rd w A (bvs val)) (hn : val.length = n ∧ n ≤ c ∧ c ≤ maxLen ∧ n ≤ 1024) (hfit : 259 ≤ room)
    (hk1 : tb k1.l 0 = false) (hk2 : tb key.l 0 = true) (hc : comm key.l k1.l = 0) :
    Calls Tryz.prog 90 #[.pointer (some ⟨gs, 0, none⟩), .int .i64 1, key.a, .slice A n c] w fun e w' => ∃ D' vs' vf' x, e = .returned (.tuple #[.int .i64 3, .int .i64 0]) ∧ StP D' w' gs g (σD k1 v1 x1 key val x room) vs' vf' ∧ Stp D w D' w' := by
  have HH := hZ h; have hcs := h.sb.ok; have r1 := hcs.r1; have r2 := hcs.r2; clear hcs; have HN := hZ hn; have HF := hZ (show (σA k1 v1 x1 room).used + 258 ≤ (σA k1 v1 x1 room).room from by show 1 + 258 ≤ room; omega); have HR := hZ hr; have kroom : (((σA k1 v1 x1 room).room : Int) == 0) = false := by simp; omega
  have klen : decide ((1024 : Int) < (n : Int)) = false := by simp; omega
  have hDO : ∀ k, D k → k < w.heap.size := h.sb.lt; have HK : Hid ((xc7 k1 v1 x1).key.l ≠ key.l) := hZ (by intro e; have e2 : k1.l = key.l := e; rw [e2, hk2] at hk1; cases hk1); have HK2 := hZ (And.intro hk1 hk2)
  have CM : ∀ u, Calls Tryz.prog 147 #[key.a, (xc7 k1 v1 x1).key.a] u fun e w' => e = .returned (.int .i64 0) ∧ Below u.heap.size u w' := fun u => by
    have h1 := xoy u key k1; rw [hc] at h1; exact h1
  have HROOM := hZ hfit; clear h hn hr hfit hk1 hk2 hc; have HL := Loc.start w; obtain ⟨w0, rfl⟩ := eW w; go_enter Tryz.func90, Tryz.ntmps90; go_upto_region 0 with fail; refine Xv ?_; refine X76 ?_; clear HL; intro g6 w HL; refine X1j ?_; go_upto_region 1 with fail; refine X1y ?_; intro K hK; refine X70 ?_; (with_reducible refine (xho (HH.out.below HL.below).sw).mono ?_); rintro e w ⟨rfl, rfl⟩; refine X5q ?_; clear hK K; refine Xme ?_; go_upto_region 3 with fail; refine Xmf ?_; refine X22 ?_; go_upto_region 5 with fail; refine X2n ?_; intro K hK; refine xad cf143 rfl _ rfl ?_; refine X1z ?_; (with_reducible refine (athand (HH.out.below HL.below).sw 1 _ _ gotA (.inl rfl) (show (1:Int) ≠ 0 by decide)).mono ?_); refine X6w ?_; clear hK K; intro w HL; go_upto_region 6 with fail; refine X2r ?_; go_upto_region 8 with fail; refine X1y ?_; intro K hK; refine xad cf144 rfl _ rfl ?_
  refine Xmg ?_; rintro e w ⟨rfl, rfl⟩; refine X21 ?_; clear hK K; refine X2c ?_; go_upto_region 10 with fail; refine X1b ?_; refine X6i ?_; refine X4a ?_; intro K hK; refine xad cf145 rfl _ rfl ?_; refine X1z ?_; (with_reducible refine (xt1 (HH.out.below HL.below).sw 1 key A n c [] 1 (wayL key 1 _ _ gotA rfl) (by simp) (rootL 1 _ _ gotA rfl) _ _ true gotA rfl HK.out).mono ?_); rintro e w ⟨v, rfl, ho, hvb, hb⟩; replace HL := HL.next hb; have hvn := xe5 ho; obtain ⟨vA, vn, vc⟩ := v; simp only [qs] at hvn; subst hvn; clear hb ho hvb; refine X5q ?_; clear hK K; refine xah zr246 rfl rfl HL ?_; clear HL; intro g11 w HL; refine X5 ?_; refine X7p ?_; refine X3j ?_; clear HL; intro w HL; go_upto_region 11 with fail; refine Xv ?_; refine xaa rfl _ (xaf xjc _ rfl _ rfl) ?_; refine X5 ?_; refine Xmh ?_; have hP := HH.out.below HL.below
  have hS0 : Stp D w0 D w := Stp.of_below HL.below; have hrd := HL.rdO HR.out; have HA : (∀ k, D k → ¬ (Old w0 k ∧ ¬ D k)) ∧ ∀ y ∈ [(g11, 246, Plc.cells ⟨⟨vA, 0, vc⟩, 1, false, true⟩), (g6, 24, key.c)], ¬ D y.1 := ⟨fun k hk hd => hd.2 hk, fun y hy hk => (HL.own y hy).1 (hDO _ hk)⟩; refine Xmi ?_; intro HX; clear HL; have HL := HX; clear HX; go_upto_region 13 with fail; refine X14 ?_; refine Xc3 ?_; intro K hK; refine xad cf146 rfl _ rfl ?_; refine X1z ?_; (with_reducible refine (leaf_two hP key A n c val hrd HN.out.1 HN.out.2.1 HN.out.2.2.1 HN.out.2.2.2 (by have := HROOM.out; omega)).mono ?_); rintro e w ⟨D1, vs1, vf1, x, rfl, hP1, hst⟩; obtain ⟨HL2, HA2⟩ := HL.goes HA hst; clear HL HA; have HL := HL2; have HA := HA2; have hS1 := hS0.trans hst; clear HL2 HA2 hst hS0 hP hrd; refine X6o ?_; clear hK K; go_upto_region 14 with fail; refine Xv ?_
  refine xaa rfl _ (xaf xjd _ rfl _ rfl) ?_; refine X5 ?_; refine Xmj ?_; have HP1 := hZ hP1; clear hP1; obtain ⟨w1, rfl⟩ := eW w; go_upto_region 15 with fail; refine rB (Loc.P HL) [] [4, 5] [0, 1, 2, 3, 4, 5, 6] 0 ?_; refine X37 ?_; intro HL; refine X61 ?_; refine X3d ?_; refine xac rfl rfl HL (fun W hW => xaf xm0 _ rfl _ rfl) ?_; refine X5 ?_; refine X7r ?_; refine Xk ?_; intro K hK; refine xad cf148 rfl _ rfl ?_; refine X1z ?_; (with_reducible refine (xqw (HP1.out.sw.below (Below.refl _ _).drew) 1 (xc7 k1 v1 x1) v1 true got2).mono ?_); refine X64 ?_; intro w hb HL hB1; clear hb; refine X6m ?_; clear hK K; intro K hK; refine xad cf147 rfl _ rfl ?_; refine X1z ?_; (with_reducible refine (CM _).mono ?_); refine X4b ?_; intro w hb HL; replace hB1 : Below w1.heap.size w1 w := hB1.trans (hb.mono hB1.size); clear hb; refine X65 ?_; clear hK K
  refine X4x ?_; have hP1 := HP1.out.below hB1; have hS1b := hS1.trans (Stp.of_below hB1); clear HP1 hB1 hS1; go_upto_region 16 with fail; refine X14 ?_; refine X7d ?_; refine X5 ?_; refine X7e ?_; refine X57 ?_; intro K hK; refine xad cf129 rfl _ rfl ?_; refine X1z ?_; (with_reducible refine (hold_two hP1).mono ?_); rintro e w ⟨rfl, hP2, hst⟩; obtain ⟨HL2, HA2⟩ := HL.goes HA hst; clear HL HA; have HL := HL2; have HA := HA2; have hS2 := hS1b.trans hst; clear HL2 HA2 hst hS1b hP1; refine X23 ?_; clear hK K; go_upto_region 17 with fail; refine X1b ?_; refine X79 ?_; refine X17 ?_; refine X7d ?_; refine X5 ?_; refine X7e ?_; refine X57 ?_; intro K hK; refine xad cf149 rfl _ rfl ?_; refine X1z ?_; (with_reducible refine (join_two hP2 HK2.out.1 HK2.out.2 (by have := HROOM.out; omega)).mono ?_); rintro e w ⟨D3, vs3, vf3, rfl, hP3, hst⟩; obtain ⟨HL2, HA2⟩ := HL.goes HA hst; clear HL HA
  have HL := HL2; have HA := HA2; have hS3 := hS2.trans hst; clear HL2 HA2 hst hS2 hP2; refine X2q ?_; clear hK K; go_upto_region 18 with fail; refine X14 ?_; refine X1u ?_; go_wp2_with fail; refine wp_loop_rounds 1 ?_; rw [rounds_succ]; go_upto_region 19 with fail; refine X14 ?_; refine X7c ?_; refine X5 ?_; refine Xmk ?_; refine X5 ?_; refine X3m ?_; refine X2c ?_; go_upto_region 22 with fail; refine Xv ?_; refine X7c ?_; refine X5 ?_; refine Xmk ?_; refine X5 ?_; refine X3m ?_; refine X1v ?_; go_wp2_with fail; refine wp_loop_rounds 1 ?_; rw [rounds_succ]; go_upto_region 23 with fail; refine X2r ?_; go_upto_region 32 with fail; refine X2r ?_; go_upto_region 33 with fail; refine X2n ?_; intro K hK; refine xad cf130 rfl _ rfl ?_; refine X1z ?_; (with_reducible refine (drop_two hP3).mono ?_); rintro e w ⟨D4, vs4, vf4, rfl, hP4, hst⟩; have hS4 := hS3.trans hst; clear hst hS3 hP3 HL HA
  refine X23 ?_; clear hK K; go_upto_region 34 with fail; refine X3s ?_; go_wp2_with fail; go_ret2; exact ⟨D4, vs4, vf4, x, rfl, hP4, hS4⟩
end
section
variable {P : Program} {t : TypeId} {w0 w : World} {D : Nat → Prop} {L : List (Nat × Nat × List Value)} {ops : Array Oper} {rest : List Oper} {o : Oper} {a : Act} {Q : Exit → Act → World → Prop}
theorem lo_map (hgd : o.guard = none) (ho : o.op = .makeMap t none) (H : Loc w0 D L w)
    (h : ∀ g w', Loc w0 D L w' → wpList P ops Q rest (a.put o.dst (.map (some g))) w') : wpList P ops Q (o :: rest) a w := by
  refine wpList_plain hgd fun K hK => ?_
  unfold Oper.wp execOp; simp only [ho, Option.map_none, Sem.run_bind, run_makeMap_plain, Result.andThen_ok]; exact hK _ _ (h _ _ (H.next ((Below.refl _ _).alloc (Nat.le_refl _) _)))
end
section
variable {D : Nat → Prop} {w w' : World} {gd gs g : Nat} {σ : Sb} {vs vf : Sv} {nm : Value} {root : Int}
theorem xuw (r : Nat) (h1 : 1 ≤ r) (h2 : r ≤ 65536) : Calls Tryz.prog 91 #[.int .i64 (r : Int)] w fun e w' => ∃ gs g D, e = .returned (.tuple #[.pointer (some ⟨gs, 0, none⟩), .int .i64 0]) ∧ StP D w' gs g ⟨[], [], r, 0⟩ Sv.nil Sv.nil ∧ (∀ k, D k → w.heap.size ≤ k) ∧ Below w.heap.size w w' := by
  have HL := Loc.start w; obtain ⟨w0, rfl⟩ := eW w; go_enter Tryz.func91, Tryz.ntmps91; go_upto_region 0 with fail; refine X32 ?_; go_upto_region 1 with fail; refine X1y ?_; intro K hK; refine xad cf151 rfl _ rfl ?_; refine X1z ?_; (with_reducible refine (sb_new r h1 h2).mono ?_); rintro e w ⟨g, rfl, hg, hsb, hb⟩; have hB1 := HL.below.trans (hb.mono HL.below.size); have hg2 := Nat.le_trans HL.below.size hg; clear HL hb hg; have HL := Loc.start w; obtain ⟨w1, rfl⟩ := eW w; refine X6o ?_; clear hK K; go_upto_region 2 with fail; refine X2r ?_; go_upto_region 4 with fail; refine X14 ?_; refine xaa rfl _ (xbf bs256 _ rfl _ (by exact bd256_25 _ rfl)) ?_; refine X5 ?_; refine xc2 rfl _ rfl HL _ rfl ?_; clear HL; intro g16 w HL; refine X1j ?_; go_wp2_with fail; go_ret2; have hgs := HL.own _ (.head _); have hsb2 := hsb.below HL.below
  refine ⟨g16, g, (fun k => k = g ∨ k = g16), rfl, ⟨hgs.2, .inr rfl, hsb2.more (fun k hk => .inl hk) ?_⟩, ?_, hB1.trans (HL.below.mono hB1.size)⟩
  · rintro k (rfl | rfl)
    · exact hsb2.lt _ rfl
    · exact hgs.2.lt
  · rintro k (rfl | rfl)
    · exact hg2
    · have := hgs.1
      unfold Old at this; have := hB1.size; omega
theorem xnu (h : StW D w gs σ) (hr : 1 ≤ σ.room) : Calls Tryz.prog 92 #[.pointer (some ⟨gs, 0, none⟩)] w fun e w' => ∃ gv, e = .returned (.tuple #[.pointer (some ⟨gv, 0, none⟩), .int .i64 0]) ∧ Below w.heap.size w w' := by
  have HH := hZ h; have k1 : ((σ.room : Int) == 0) = false := by simp; omega
  clear h; have HL := Loc.start w; obtain ⟨w0, rfl⟩ := eW w; go_enter Tryz.func92, Tryz.ntmps92; go_upto_region 0 with fail; refine X32 ?_; go_upto_region 1 with fail; refine X1y ?_; intro K hK; refine X70 ?_; (with_reducible refine (xho (HH.out.below HL.below)).mono ?_); rintro e w ⟨rfl, rfl⟩; refine X5q ?_; clear hK K; refine X9u ?_; refine X22 ?_; go_upto_region 3 with fail; refine X14 ?_; refine lo_map rfl rfl HL ?_; clear HL; intro g8 w HL; refine Xw ?_; refine xaa rfl _ (xbf bs259 _ rfl _ (by exact bd259_35 _ rfl _ rfl)) ?_; refine X5 ?_; refine Xhw ?_; clear HL; intro g10 w HL; refine X1j ?_; go_wp2_with fail; go_ret2; exact ⟨_, rfl, HL.below⟩
structure DcP (D : Nat → Prop) (w : World) (gd gs g : Nat) (σ : Sb) (vs vf : Sv) (nm : Value) (root : Int) : Prop where
  blk : Blk w gd 166 [nm, .pointer (some ⟨gs, 0, none⟩), .int .i64 root]
  st : StP D w gs g σ vs vf
  far : ¬ D gd
theorem DcP.c1 (h : DcP D w gd gs g σ vs vf nm root) : w.cell? ⟨gd, 1, none⟩ = some (.pointer (some ⟨gs, 0, none⟩)) := by rw [h.blk.cell]; rfl
theorem DcP.c2 (h : DcP D w gd gs g σ vs vf nm root) : w.cell? ⟨gd, 2, none⟩ = some (.int .i64 root) := by rw [h.blk.cell]; rfl
theorem DcP.below (h : DcP D w gd gs g σ vs vf nm root) (hb : Below w.heap.size w w') : DcP D w' gd gs g σ vs vf nm root := ⟨h.blk.below hb h.blk.lt, h.st.below hb, h.far⟩
theorem dict_new (r : Nat) (h1 : 1 ≤ r) (h2 : r ≤ 65536) : Calls Tryz.prog 36 #[.int .i64 (r : Int)] w fun e w' => ∃ gd gs g D nm, e = .returned (.tuple #[.pointer (some ⟨gd, 0, none⟩), .int .i64 0]) ∧ DcP D w' gd gs g ⟨[], [], r, 0⟩ Sv.nil Sv.nil nm 0 ∧ (∀ k, D k → w.heap.size ≤ k) ∧ w.heap.size ≤ gd ∧ Below w.heap.size w w' := by
  have HL := Loc.start w; obtain ⟨w0, rfl⟩ := eW w; go_enter Tryz.func36, Tryz.ntmps36; go_upto_region 0 with fail; refine X32 ?_; go_upto_region 1 with fail; refine X1y ?_; intro K hK; refine xad cf91 rfl _ rfl ?_; refine X1z ?_; (with_reducible refine (xuw r h1 h2).mono ?_); rintro e w ⟨gs, g, D, rfl, hst, hnew, hb⟩; have hB1 := HL.below.trans (hb.mono HL.below.size); have hnew2 : ∀ k, D k → w0.heap.size ≤ k := fun k hk => Nat.le_trans HL.below.size (hnew k hk)
  clear HL hb hnew; have HL := Loc.start w; obtain ⟨w1, rfl⟩ := eW w; refine X6o ?_; clear hK K; go_upto_region 2 with fail; refine X2r ?_; go_upto_region 4 with fail; refine X1y ?_; intro K hK; refine xad cf92 rfl _ rfl ?_; refine X1z ?_; (with_reducible refine (xnu (hst.below HL.below).sw h1).mono ?_); rintro e w ⟨gv, rfl, hb⟩; replace HL := HL.next hb; clear hb; refine X6o ?_; clear hK K; go_upto_region 5 with fail; refine X2r ?_; go_upto_region 7 with fail; refine X14 ?_; refine xaa rfl _ (xbf bs163 _ rfl _ (by exact bd163_23 _ rfl)) ?_; refine X17 ?_; refine xaa rfl _ (xbf bs166 _ rfl _ (by exact bd166_24 _ _ rfl)) ?_; refine X5 ?_; refine xc2 rfl _ rfl HL _ rfl ?_; clear HL; intro g27 w HL; refine X1j ?_; go_wp2_with fail; go_ret2; have hgd := HL.own _ (.head _)
  refine ⟨g27, gs, g, D, _, rfl, ⟨hgd.2, hst.below HL.below, fun hk => hgd.1 (hst.sb.lt _ hk)⟩, hnew2, ?_, hB1.trans (HL.below.mono hB1.size)⟩; have := hgd.1; unfold Old at this; have := hB1.size; omega
end
end Go.Proofs.YtkjjdgnkelchfaaGreat
