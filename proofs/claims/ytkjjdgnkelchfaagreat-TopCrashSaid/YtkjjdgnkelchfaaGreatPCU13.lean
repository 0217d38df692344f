import Derived.Test.YtkjjdgnkelchfaaGreatPCU12
set_option linter.unusedSimpArgs false
set_option linter.unusedVariables false
set_option maxRecDepth 100000
set_option maxHeartbeats 16000000
namespace Go.Proofs.YtkjjdgnkelchfaaGreat
open Go Go.RowKit
structure WriT (D : Nat → Prop) (w : World) (A : Option Addr) (n c : Nat) (ws : List Wrt) (ls : List (List UInt8)) : Prop where
  s : WriS w A n c ws
  len : ls.length = ws.length
  tx : ∀ (i : Nat) (h : i < ws.length), Tx w ws[i].val.A ws[i].val.n ws[i].val.c (ls.getD i [])
  d : ws ≠ [] → ∀ ad, A = some ad → ¬ D ad.block
  dv : ∀ (i : Nat) (h : i < ws.length), ls.getD i [] ≠ [] → ∀ ad, ws[i].val.A = some ad → ¬ D ad.block
section
variable {D D' : Nat → Prop} {w w' : World} {A : Option Addr} {n c : Nat} {ws : List Wrt} {ls : List (List UInt8)}
theorem ws_ne (h : ws.flatMap Wrt.cells ≠ []) : ws ≠ [] := (fm_ne Wrt.len (by decide)).1 h
theorem xmk {B : Option Addr} {cs : List Value} (h : Rd w B cs) (hs : Stp D w D' w') (hd : cs ≠ [] → ∀ ad, B = some ad → ¬ D ad.block) : Rd w' B cs ∧ (cs ≠ [] → ∀ ad, B = some ad → ¬ D' ad.block) := by
  refine ⟨?_, fun hne ad e hk => ?_⟩
  · by_cases hne : cs = []
    · subst hne; exact Rd.nil _ _
    · exact h.fr hs.fr (fun ad e => hd hne ad e)
  · rcases hs.new _ hk with h1 | h1
    · exact hd hne ad e h1
    · have := h.lt hne e; omega
theorem WriT.step (h : WriT D w A n c ws ls) (hs : Stp D w D' w') : WriT D' w' A n c ws ls := by
  have h1 := xmk h.s.rd hs (fun hne => h.d (ws_ne hne)); refine ⟨⟨h1.1, h.s.len, h.s.cap⟩, h.len, fun i hi => ?_, fun hne => h1.2 ((fm_ne Wrt.len (by decide)).2 hne), fun i hi hne => ?_⟩
  · have h2 := h.tx i hi
    have h3 := xmk h2.rd hs (fun hne => h.dv i hi (bvs_ne hne)); exact ⟨h2.len, h2.cap, h2.max, h3.1, fun _ _ h => h⟩
  · exact (xmk (h.tx i hi).rd hs (fun hne => h.dv i hi (bvs_ne hne))).2 (bvs_ne2 hne)
theorem WriT.take (h : WriT D w A n c ws ls) (m : Nat) (hm : m ≤ n) : WriT D w A m c (ws.take m) (ls.take m) := by
  have hl := h.s.len; have hc := h.s.cap
  have e : ∀ i, i < m → (ls.take m).getD i [] = ls.getD i [] := fun i hi => by
    rw [List.getD_eq_getElem?_getD, List.getD_eq_getElem?_getD, List.getElem?_take_of_lt hi]
  refine ⟨⟨?_, by simp; omega, by omega⟩, by simp [h.len], fun i hi => ?_, fun hne => h.d (fun e => hne (by simp [e])), fun i hi hne => ?_⟩
  · have h1 := h.s.rd.take (m * 34)
    have e1 : (ws.flatMap Wrt.cells).take (m * 34) = (ws.take m).flatMap Wrt.cells := by
      have h2 : ws.flatMap Wrt.cells = (ws.take m).flatMap Wrt.cells ++ (ws.drop m).flatMap Wrt.cells := by rw [← List.flatMap_append, List.take_append_drop]
      rw [h2]; exact List.take_left' (by rw [xcc Wrt.len, List.length_take]; congr 1; omega)
    rwa [e1] at h1
  · have hi2 : i < m := by simp at hi; omega
    rw [e i hi2, List.getElem_take]; exact h.tx i (by omega)
  · have hi2 : i < m := by simp at hi; omega
    rw [e i hi2] at hne; rw [List.getElem_take]; exact h.dv i (by omega) hne
theorem xpq {A : Option Addr} {c lo z : Nat} {ad : Addr} (e : cutA A c lo z = some ad) : ∃ a0, A = some a0 ∧ a0.block = ad.block := by
  unfold cutA at e
  split at e
  · exact ⟨ad, e, rfl⟩
  · cases hA : A with
    | none => rw [hA] at e; cases e
    | some a0 =>
      rw [hA] at e; simp only [Option.map_some, Option.some.injEq] at e; subst e; exact ⟨a0, rfl, by unfold Addr.add; split <;> rfl⟩
theorem WriT.drop (h : WriT D w A n c ws ls) (m : Nat) (hm : m ≤ n) : WriT D w (cutA A c m 34) (n - m) (c - m) (ws.drop m) (ls.drop m) := by
  have hl := h.s.len; have hc := h.s.cap
  have e : ∀ i, (ls.drop m).getD i [] = ls.getD (m + i) [] := fun i => by
    rw [List.getD_eq_getElem?_getD, List.getD_eq_getElem?_getD, List.getElem?_drop]
  refine ⟨⟨?_, by simp; omega, by omega⟩, by simp [h.len], fun i hi => ?_, fun hne ad e' => ?_, fun i hi hne => ?_⟩
  · have h1 := h.s.rd.cutA (c := c) (lo := m) (z := 34) (by rw [xcc Wrt.len]; exact Nat.mul_le_mul_right _ (by omega)) ((n - m) * 34)
    have e1 : ((ws.flatMap Wrt.cells).drop (m * 34)).take ((n - m) * 34) = (ws.drop m).flatMap Wrt.cells := by
      have h2 : ws.flatMap Wrt.cells = (ws.take m).flatMap Wrt.cells ++ (ws.drop m).flatMap Wrt.cells := by rw [← List.flatMap_append, List.take_append_drop]
      rw [h2, List.drop_left' (by rw [xcc Wrt.len, List.length_take]; congr 1; omega), List.take_of_length_le (by rw [xcc Wrt.len, List.length_drop]; exact Nat.mul_le_mul_right _ (by omega))]
    rwa [e1] at h1
  · rw [e i, List.getElem_drop]
    exact h.tx (m + i) (by simp at hi; omega)
  · obtain ⟨a0, h1, h2⟩ := xpq e'
    rw [← h2]; exact h.d (fun e => hne (by simp [e])) a0 h1
  · rw [e i] at hne
    rw [List.getElem_drop]; exact h.dv (m + i) (by simp at hi; omega) hne
end
def esOf (ws : List Wrt) (ls : List (List UInt8)) : List (D32 × List UInt8) := (ws.map Wrt.key).zip ls
theorem xn6 {d : Nat} : ∀ {ws : List Wrt} {ls : List (List UInt8)}, ls.length = ws.length → ((esOf ws ls).takeWhile fun p => !tb p.1.l d) = esOf (ws.take (xbe d ws)) (ls.take (xbe d ws)) ∧ ((esOf ws ls).dropWhile fun p => !tb p.1.l d) = esOf (ws.drop (xbe d ws)) (ls.drop (xbe d ws))
  | [], [], _ => ⟨rfl, rfl⟩
  | x :: ws, l :: ls, h => by
    have ih := xn6 (d := d) (ws := ws) (ls := ls) (by simpa using h); have e : esOf (x :: ws) (l :: ls) = (x.key, l) :: esOf ws ls := rfl; rw [e, List.takeWhile_cons, List.dropWhile_cons]; unfold xbe; rw [List.takeWhile_cons]
    cases hb : tb x.key.l d with
    | true => exact ⟨by simp [hb, esOf], by simp [hb, esOf]⟩
    | false =>
      simp only [hb, Bool.not_false, if_true, qr, List.take_succ_cons, List.drop_succ_cons]; exact ⟨by rw [ih.1]; rfl, by rw [ih.2]; rfl⟩
theorem xla (l r : Tre) : (xci l r).size ≤ l.size + r.size := by
  unfold xci
  split
  · omega
  · split
    · omega
    · exact Nat.le_refl _
theorem ok_up {d : Nat} {t : Tre} (h : t.Ok (d + 1)) (hn : t.isIn = false) : t.Ok d := by
  cases t with
  | nil => trivial
  | leaf k v => exact ⟨h.1, by have := h.2; omega⟩
  | inner l r => cases hn
theorem xq1 {d : Nat} {l r : Tre} (hd : d < 256) (hl : l.Ok (d + 1)) (hr : r.Ok (d + 1)) (hbl : ∀ k ∈ l.keys, tb k.l d = false) (hbr : ∀ k ∈ r.keys, tb k.l d = true) (hall : ∀ k ∈ l.keys ++ r.keys, ∀ k' ∈ l.keys ++ r.keys, ∀ e, e < d → tb k.l e = tb k'.l e) : (xci l r).Ok d := by
  unfold xci
  split
  · next h => exact ok_up hr h.2
  · next h1 =>
    split
    · next h => exact ok_up hl h.2
    · next h2 =>
      refine ⟨hd, hl, hr, hbl, hbr, hall, fun e => ?_, fun e => ?_⟩
      · refine ⟨?_, xdv hl e⟩
        cases hi : r.isIn with
        | true => rfl
        | false => exact absurd ⟨e, hi⟩ h1
      · refine ⟨?_, xdv hr e⟩
        cases hi : l.isIn with
        | true => rfl
        | false => exact absurd ⟨e, hi⟩ h2
theorem xgt {α : Type} (f : α → Bool) (l : List α) : l.takeWhile f ++ l.dropWhile f = l := List.takeWhile_append_dropWhile
theorem xcw : ∀ (n d : Nat) (es : List (D32 × List UInt8)), (∀ k ∈ (xau n d es).keys, k ∈ es.map Prod.fst) ∧ (xau n d es).size ≤ es.length
  | _, _, [] => ⟨fun k hk => by simp [xau, Tre.keys] at hk, by simp [xau, Tre.size]⟩
  | n, d, [x] => ⟨fun k hk => by simpa [xau, Tre.keys] using hk, by simp [xau, Tre.size]⟩
  | 0, _, x :: y :: l => ⟨fun k hk => by simp [xau, Tre.keys] at hk, by simp [xau, Tre.size]⟩
  | n + 1, d, x :: y :: l => by
    have h1 := xcw n (d + 1) ((x :: y :: l).takeWhile fun p => !tb p.1.l d); have h2 := xcw n (d + 1) ((x :: y :: l).dropWhile fun p => !tb p.1.l d); have e := xgt (fun p : D32 × List UInt8 => !tb p.1.l d) (x :: y :: l); have hs : xau (n + 1) d (x :: y :: l) = xci (xau n (d + 1) ((x :: y :: l).takeWhile fun p => !tb p.1.l d)) (xau n (d + 1) ((x :: y :: l).dropWhile fun p => !tb p.1.l d)) := rfl; rw [hs]; generalize (x :: y :: l).takeWhile (fun p => !tb p.1.l d) = a at *; generalize (x :: y :: l).dropWhile (fun p => !tb p.1.l d) = b at *; rw [← e]; refine ⟨fun k hk => ?_, Nat.le_trans (xla _ _) (by rw [List.length_append]; omega)⟩
    have hk2 : k ∈ (xau n (d + 1) a).keys ++ (xau n (d + 1) b).keys := by
      unfold xci at hk
      split at hk
      · simp [hk]
      · split at hk
        · simp [hk]
        · exact hk
    rw [List.map_append, List.mem_append]; rcases List.mem_append.1 hk2 with h | h
    · exact .inl (h1.1 k h)
    · exact .inr (h2.1 k h)
def xgu : Nat → Nat → List (D32 × List UInt8) → Prop
  | _, _, [] => True
  | _, _, [_] => True
  | 0, _, _ => False
  | n + 1, d, x :: y :: l => (∀ p ∈ (x :: y :: l).dropWhile (fun p => !tb p.1.l d), tb p.1.l d = true) ∧ xgu n (d + 1) ((x :: y :: l).takeWhile fun p => !tb p.1.l d) ∧ xgu n (d + 1) ((x :: y :: l).dropWhile fun p => !tb p.1.l d)
theorem xga {d : Nat} {es : List (D32 × List UInt8)} : ∀ p ∈ es.takeWhile (fun p => !tb p.1.l d), tb p.1.l d = false := fun p hp => by
  have := List.all_eq_true.1 (List.all_takeWhile (p := fun p : D32 × List UInt8 => !tb p.1.l d) (l := es)) p hp; simpa using this
theorem xdw : ∀ (n d : Nat) (es : List (D32 × List UInt8)), d + n = 256 → xgu n d es → (∀ p ∈ es, p.2.length ≤ 1024) → (∀ p ∈ es, ∀ q ∈ es, ∀ e, e < d → tb p.1.l e = tb q.1.l e) → (xau n d es).Ok d
  | _, _, [], _, _, _, _ => by simp only [xau]; trivial
  | n, d, [x], hd, _, hv, _ => by simp only [xau]; exact ⟨hv x (by simp), by omega⟩
  | 0, d, x :: y :: l, _, h, _, _ => h.elim
  | n + 1, d, x :: y :: l, hd, ⟨hb, h1, h2⟩, hv, hs => by
    have hsT : ∀ p ∈ (x :: y :: l).takeWhile (fun p => !tb p.1.l d), p ∈ x :: y :: l := fun p hp => (List.takeWhile_sublist _).subset hp
    have hsD : ∀ p ∈ (x :: y :: l).dropWhile (fun p => !tb p.1.l d), p ∈ x :: y :: l := fun p hp => (List.dropWhile_sublist _).subset hp
    have hT := xga (d := d) (es := x :: y :: l); have e : xau (n + 1) d (x :: y :: l) = xci (xau n (d + 1) ((x :: y :: l).takeWhile fun p => !tb p.1.l d)) (xau n (d + 1) ((x :: y :: l).dropWhile fun p => !tb p.1.l d)) := rfl; rw [e]; generalize (x :: y :: l).takeWhile (fun p => !tb p.1.l d) = a at *; generalize (x :: y :: l).dropWhile (fun p => !tb p.1.l d) = b at *
    have oa := xdw n (d + 1) a (by omega) h1 (fun p hp => hv p (hsT p hp)) (fun p hp q hq x hx => by
      by_cases hxd : x = d
      · subst hxd; rw [hT p hp, hT q hq]
      · exact hs p (hsT p hp) q (hsT q hq) x (by omega))
    have ob := xdw n (d + 1) b (by omega) h2 (fun p hp => hv p (hsD p hp)) (fun p hp q hq x hx => by
      by_cases hxd : x = d
      · subst hxd; rw [hb p hp, hb q hq]
      · exact hs p (hsD p hp) q (hsD q hq) x (by omega))
    have ka := (xcw n (d + 1) a).1; have kb := (xcw n (d + 1) b).1
    have hmem : ∀ k ∈ (xau n (d + 1) a).keys ++ (xau n (d + 1) b).keys, ∃ p ∈ x :: y :: l, p.1 = k := fun k hk => by
      rcases List.mem_append.1 hk with h | h
      · obtain ⟨p, hp, rfl⟩ := List.mem_map.1 (ka k h); exact ⟨p, hsT p hp, rfl⟩
      · obtain ⟨p, hp, rfl⟩ := List.mem_map.1 (kb k h); exact ⟨p, hsD p hp, rfl⟩
    refine xq1 (by omega) oa ob (fun k hk => ?_) (fun k hk => ?_) (fun k hk k' hk' x hx => ?_)
    · obtain ⟨p, hp, rfl⟩ := List.mem_map.1 (ka k hk); exact hT p hp
    · obtain ⟨p, hp, rfl⟩ := List.mem_map.1 (kb k hk); exact hb p hp
    · obtain ⟨p, hp, rfl⟩ := hmem k hk
      obtain ⟨q, hq, rfl⟩ := hmem k' hk'; exact hs p hp q hq x hx
def Tre.has : Tre → D32 × List UInt8 → Bool
  | .leaf k v, p => k == p.1 && v == p.2
  | _, _ => false
def newN (t : Tre) (es : List (D32 × List UInt8)) : Nat := (es.filter fun p => !t.has p).length
theorem newN_app (t : Tre) (a b : List (D32 × List UInt8)) : newN t (a ++ b) = newN t a + newN t b := by simp [newN]
theorem newN_pos {t : Tre} {x y : D32 × List UInt8} {l : List (D32 × List UInt8)} (h : x.1 ≠ y.1) : 1 ≤ newN t (x :: y :: l) := by
  unfold newN
  cases t with
  | nil => simp [Tre.has]
  | inner a b => simp [Tre.has]
  | leaf k v =>
    by_cases hx : k = x.1
    · have hy : ¬ k = y.1 := fun e => h (hx.symm.trans e)
      have e : (Tre.leaf k v).has y = false := by simp [Tre.has, hy]
      rw [List.filter_cons, List.filter_cons]; simp only [e, Bool.not_false, if_true]
      split <;> simp
    · have e : (Tre.leaf k v).has x = false := by simp [Tre.has, hx]
      rw [List.filter_cons]; simp only [e, Bool.not_false, if_true]; simp
abbrev Ent := D32 × List UInt8
def Tre.ents : Tre → List Ent
  | .nil => []
  | .leaf k v => [(k, v)]
  | .inner l r => l.ents ++ r.ents
theorem xey : ∀ t : Tre, t.ents.map Prod.fst = t.keys
  | .nil => rfl
  | .leaf k v => rfl
  | .inner l r => by simp [Tre.ents, Tre.keys, xey l, xey r]
theorem xc3 {t : Tre} {p : Ent} (h : p ∈ t.ents) : p.1 ∈ t.keys := by
  rw [← xey]; exact List.mem_map_of_mem h
theorem xdo {t : Tre} {k : D32} (h : k ∈ t.keys) : ∃ v, (k, v) ∈ t.ents := by
  rw [← xey] at h; obtain ⟨p, hp, rfl⟩ := List.mem_map.1 h; exact ⟨p.2, hp⟩
theorem xft : ∀ {t : Tre} {d : Nat}, t.Ok d → t.isIn = true → ∃ k ∈ t.keys, ∃ k' ∈ t.keys, k ≠ k'
  | .nil, _, _, h => by cases h
  | .leaf _ _, _, _, h => by cases h
  | .inner l r, d, h, _ => by
    obtain ⟨_, h1, h2, hl, hr, _, h3, h4⟩ := h; by_cases el : l.keys = []
    · obtain ⟨k, hk, k', hk', hne⟩ := xft h2 (h3 el).1
      exact ⟨k, by simp [Tre.keys, hk], k', by simp [Tre.keys, hk'], hne⟩
    · by_cases er : r.keys = []
      · obtain ⟨k, hk, k', hk', hne⟩ := xft h1 (h4 er).1
        exact ⟨k, by simp [Tre.keys, hk], k', by simp [Tre.keys, hk'], hne⟩
      · obtain ⟨k, hk⟩ := List.exists_mem_of_ne_nil _ el
        obtain ⟨k', hk'⟩ := List.exists_mem_of_ne_nil _ er; refine ⟨k, by simp [Tre.keys, hk], k', by simp [Tre.keys, hk'], fun e => ?_⟩; have a := hl k hk; have b := hr k' hk'; rw [e, b] at a; cases a
theorem xh6 : ∀ {t u : Tre} {d : Nat}, t.Ok d → u.Ok d → (∀ p, p ∈ t.ents ↔ p ∈ u.ents) → t = u
  | .nil, u, d, _, hu, h => by
    have : u.ents = [] := List.eq_nil_iff_forall_not_mem.2 fun p hp => by have := (h p).2 hp; cases this
    exact (xdv hu (by rw [← xey, this]; rfl)).symm
  | .leaf k v, .nil, d, _, _, h => by
    have := (h (k, v)).1 (by simp [Tre.ents]); cases this
  | .leaf k v, .leaf k' v', d, _, _, h => by
    have := (h (k, v)).1 (by simp [Tre.ents]); simp only [Tre.ents, List.mem_singleton, Prod.mk.injEq] at this; rw [this.1, this.2]
  | .leaf k v, .inner l r, d, _, hu, h => by
    obtain ⟨a, ha, b, hb, hne⟩ := xft hu rfl; obtain ⟨va, ha⟩ := xdo ha; obtain ⟨vb, hb⟩ := xdo hb; have ea := (h _).2 ha; have eb := (h _).2 hb; simp only [Tre.ents, List.mem_singleton, Prod.mk.injEq] at ea eb; exact absurd (ea.1.trans eb.1.symm) hne
  | .inner l r, .nil, d, ht, _, h => by
    obtain ⟨a, ha, _⟩ := xft ht rfl; obtain ⟨va, ha⟩ := xdo ha; have := (h _).1 ha; cases this
  | .inner l r, .leaf k v, d, ht, _, h => by
    obtain ⟨a, ha, b, hb, hne⟩ := xft ht rfl; obtain ⟨va, ha⟩ := xdo ha; obtain ⟨vb, hb⟩ := xdo hb; have ea := (h _).1 ha; have eb := (h _).1 hb; simp only [Tre.ents, List.mem_singleton, Prod.mk.injEq] at ea eb; exact absurd (ea.1.trans eb.1.symm) hne
  | .inner l r, .inner l' r', d, ht, hu, h => by
    obtain ⟨_, h1, h2, hl, hr, _, _, _⟩ := ht; obtain ⟨_, g1, g2, gl, gr, _, _, _⟩ := hu
    have key : ∀ {a b a' b' : Tre} {x y : Bool}, x ≠ y → (∀ k ∈ a.keys, tb k.l d = x) → (∀ k ∈ b'.keys, tb k.l d = y) → (∀ p, p ∈ a.ents → p ∈ a'.ents ∨ p ∈ b'.ents) → ∀ p, p ∈ a.ents → p ∈ a'.ents := by
      intro a b a' b' x y hxy ha hb hab p hp; rcases hab p hp with h3 | h3
      · exact h3
      · exact absurd ((ha _ (xc3 hp)).symm.trans (hb _ (xc3 h3))) hxy
    have el : l = l' := xh6 h1 g1 fun p =>
      ⟨key (a := l) (b := r) (a' := l') (b' := r') (x := false) (y := true) (by decide) hl gr (fun p hp => by have := (h p).1 (by simp [Tre.ents, hp]); simpa [Tre.ents] using this) p,
       key (a := l') (b := r') (a' := l) (b' := r) (x := false) (y := true) (by decide) gl hr (fun p hp => by have := (h p).2 (by simp [Tre.ents, hp]); simpa [Tre.ents] using this) p⟩
    have er : r = r' := xh6 h2 g2 fun p =>
      ⟨key (a := r) (b := l) (a' := r') (b' := l') (x := true) (y := false) (by decide) hr gl (fun p hp => by have := (h p).1 (by simp [Tre.ents, hp]); simpa [Tre.ents, or_comm] using this) p,
       key (a := r') (b := l') (a' := r) (b' := l) (x := true) (y := false) (by decide) gr hl (fun p hp => by have := (h p).2 (by simp [Tre.ents, hp]); simpa [Tre.ents, or_comm] using this) p⟩
    rw [el, er]
theorem xfu : ∀ {t : Tre} {d : Nat}, t.Ok d → ∀ p ∈ t.ents, p.2.length ≤ 1024
  | .nil, _, _, _, h => by cases h
  | .leaf k v, _, h, p, hp => by
    simp only [Tre.ents, List.mem_singleton] at hp; subst hp; exact h.1
  | .inner l r, d, ⟨_, h1, h2, _⟩, p, hp => by
    rcases List.mem_append.1 hp with a | a
    · exact xfu h1 p a
    · exact xfu h2 p a
theorem xlb {d : Nat} {l r : Tre} (hl : l.Ok d) (hr : r.Ok d) : (xci l r).ents = l.ents ++ r.ents := by
  unfold xci
  split
  · next h => rw [xdv hl h.1]; rfl
  · split
    · next h => rw [xdv hr h.1]; simp [Tre.ents]
    · rfl
theorem xfc : ∀ (n d : Nat) (es : List Ent), d + n = 256 → xgu n d es → (∀ p ∈ es, p.2.length ≤ 1024) → (∀ p ∈ es, ∀ q ∈ es, ∀ e, e < d → tb p.1.l e = tb q.1.l e) → (xau n d es).ents = es
  | _, _, [], _, _, _, _ => by simp only [xau]; rfl
  | n, d, [x], _, _, _, _ => by simp only [xau]; rfl
  | 0, d, x :: y :: l, _, h, _, _ => h.elim
  | n + 1, d, x :: y :: l, hd, ⟨hb, h1, h2⟩, hv, hs => by
    have hsT : ∀ p ∈ (x :: y :: l).takeWhile (fun p => !tb p.1.l d), p ∈ x :: y :: l := fun p hp => (List.takeWhile_sublist _).subset hp
    have hsD : ∀ p ∈ (x :: y :: l).dropWhile (fun p => !tb p.1.l d), p ∈ x :: y :: l := fun p hp => (List.dropWhile_sublist _).subset hp
    have hT := xga (d := d) (es := x :: y :: l); have e : xau (n + 1) d (x :: y :: l) = xci (xau n (d + 1) ((x :: y :: l).takeWhile fun p => !tb p.1.l d)) (xau n (d + 1) ((x :: y :: l).dropWhile fun p => !tb p.1.l d)) := rfl; have e3 := xgt (fun p : Ent => !tb p.1.l d) (x :: y :: l); rw [e]; generalize (x :: y :: l).takeWhile (fun p => !tb p.1.l d) = a at *; generalize (x :: y :: l).dropWhile (fun p => !tb p.1.l d) = b at *
    have sa : ∀ p ∈ a, ∀ q ∈ a, ∀ e, e < d + 1 → tb p.1.l e = tb q.1.l e := fun p hp q hq x hx => by
      by_cases hxd : x = d
      · subst hxd; rw [hT p hp, hT q hq]
      · exact hs p (hsT p hp) q (hsT q hq) x (by omega)
    have sb : ∀ p ∈ b, ∀ q ∈ b, ∀ e, e < d + 1 → tb p.1.l e = tb q.1.l e := fun p hp q hq x hx => by
      by_cases hxd : x = d
      · subst hxd; rw [hb p hp, hb q hq]
      · exact hs p (hsD p hp) q (hsD q hq) x (by omega)
    have oa := xdw n (d + 1) a (by omega) h1 (fun p hp => hv p (hsT p hp)) sa; have ob := xdw n (d + 1) b (by omega) h2 (fun p hp => hv p (hsD p hp)) sb; rw [xlb oa ob, xfc n (d + 1) a (by omega) h1 (fun p hp => hv p (hsT p hp)) sa, xfc n (d + 1) b (by omega) h2 (fun p hp => hv p (hsD p hp)) sb, e3]
theorem xn7 {p q : List UInt8} (hp : p.length = 32) (hq : q.length = 32) (d : Nat) (hd : d < 256) (hs : ∀ e, e < d → tb p e = tb q e) (hlt : nOf p < nOf q) (hb : tb p d = true) : tb q d = true := by
  cases hc : tb q d with
  | true => rfl
  | false =>
    exfalso; have e1 : nOf p / 2 ^ (256 - d) = nOf q / 2 ^ (256 - d) := (comm_ge hp hq d (by omega)).1 (Nat.le_of_not_lt fun h => xek p q (by omega) (hs _ h)); rw [xdz p hp d hd] at hb; rw [xdz q hq d hd] at hc
    have h2 : ∀ n : Nat, n / 2 ^ (255 - d) = 2 * (n / 2 ^ (256 - d)) + (n.testBit (255 - d)).toNat := fun n => by
      have e : 2 ^ (256 - d) = 2 ^ (255 - d) * 2 := by rw [← Nat.pow_succ]; congr 1; omega
      rw [e, ← Nat.div_div_eq_div_mul, Nat.testBit_eq_decide_div_mod_eq]; have := Nat.mod_two_eq_zero_or_one (n / 2 ^ (255 - d)); rcases this with h | h <;> simp [h] <;> omega
    have hp2 := h2 (nOf p); have hq2 := h2 (nOf q); rw [hb] at hp2; rw [hc] at hq2
    have h3 : nOf q / 2 ^ (255 - d) < nOf p / 2 ^ (255 - d) := by
      rw [hp2, hq2, e1]; simp
    have h4 := Nat.div_le_div_right (c := 2 ^ (255 - d)) (Nat.le_of_lt hlt); omega
def Rise (es : List Ent) : Prop := es.Pairwise fun p q => nOf p.1.l < nOf q.1.l
theorem xlc {d : Nat} (hd : d < 256) : ∀ {es : List Ent}, Rise es → (∀ p ∈ es, ∀ q ∈ es, ∀ e, e < d → tb p.1.l e = tb q.1.l e) → ∀ p ∈ es.dropWhile (fun p => !tb p.1.l d), tb p.1.l d = true
  | [], _, _, p, hp => by cases hp
  | x :: es, hr, hs, p, hp => by
    obtain ⟨h1, h2⟩ := List.pairwise_cons.1 hr
    cases hb : tb x.1.l d with
    | false =>
      rw [List.dropWhile_cons, hb] at hp; exact xlc hd h2 (fun p hp q hq => hs p (by simp [hp]) q (by simp [hq])) p (by simpa using hp)
    | true =>
      rw [List.dropWhile_cons, hb] at hp; rcases List.mem_cons.1 (by simpa using hp) with rfl | hp
      · exact hb
      · exact xn7 x.1.h p.1.h d hd (hs x (by simp) p (by simp [hp])) (h1 p hp) hb
theorem xfd : ∀ (n d : Nat) (es : List Ent), d + n = 256 → Rise es → (∀ p ∈ es, ∀ q ∈ es, ∀ e, e < d → tb p.1.l e = tb q.1.l e) → xgu n d es
  | n, d, [], _, _, _ => by cases n <;> trivial
  | n, d, [x], _, _, _ => by cases n <;> trivial
  | 0, d, x :: y :: l, hd, hr, hs => by
    obtain ⟨h1, _⟩ := List.pairwise_cons.1 hr; have h2 := h1 y (by simp); have e := xqd x.1.h y.1.h (fun e he => hs x (by simp) y (by simp) e (by omega)); rw [e] at h2; exact absurd h2 (Nat.lt_irrefl _)
  | n + 1, d, x :: y :: l, hd, hr, hs => by
    have hdb := xlc (d := d) (by omega) hr hs; have hsT : ((x :: y :: l).takeWhile (fun p => !tb p.1.l d)).Sublist (x :: y :: l) := List.takeWhile_sublist _; have hsD : ((x :: y :: l).dropWhile (fun p => !tb p.1.l d)).Sublist (x :: y :: l) := List.dropWhile_sublist _; have hT := xga (d := d) (es := x :: y :: l); refine ⟨hdb, xfd n (d + 1) _ (by omega) (hr.sublist hsT) fun p hp q hq e he => ?_, xfd n (d + 1) _ (by omega) (hr.sublist hsD) fun p hp q hq e he => ?_⟩
    · by_cases hed : e = d
      · subst hed; rw [hT p hp, hT q hq]
      · exact hs p (hsT.subset hp) q (hsT.subset hq) e (by omega)
    · by_cases hed : e = d
      · subst hed; rw [hdb p hp, hdb q hq]
      · exact hs p (hsD.subset hp) q (hsD.subset hq) e (by omega)
theorem xfe {es : List Ent} (h : Rise es) : (es.map Prod.fst).Nodup := by
  rw [List.nodup_iff_pairwise_ne, List.pairwise_map]; exact h.imp fun hlt e => by rw [e] at hlt; exact Nat.lt_irrefl _ hlt
abbrev WE := Wrt × List UInt8
def clr (e : WE) : WE := if e.1.gone then (⟨e.1.key, true, Sv.nil⟩, []) else e
def pw (e : WE) : D32 × Option (List UInt8) := (e.1.key, if e.1.gone then none else some e.2)
theorem xhh (e : WE) : (clr e).1.key = e.1.key := by unfold clr; split <;> rfl
theorem xml (e : WE) : pw (clr e) = pw e := by
  unfold clr
  split
  · next h => unfold pw; rw [h]; rfl
  · rfl
theorem xn8 {e : WE} (h : e.1.gone = true) : clr e = (⟨e.1.key, true, Sv.nil⟩, []) := by unfold clr; rw [if_pos h]
theorem xn9 {e : WE} (h : e.1.gone = false) : clr e = e := by unfold clr; rw [h]; rfl
def xdc (out : List WE) (e : WE) : List WE := if e.1.key ∈ out.map (fun q => q.1.key) then out.map (fun q => if q.1.key = e.1.key then e else q) else out ++ [e]
def lstW (es : List WE) : List WE := es.foldl (fun o e => xdc o (clr e)) []
theorem xez (es : List WE) (e : WE) : lstW (es ++ [e]) = xdc (lstW es) (clr e) := by simp [lstW, List.foldl_append]
theorem xgb {es : List WE} {i : Nat} (hi : i < es.length) : lstW (es.take (i + 1)) = xdc (lstW (es.take i)) (clr es[i]) := by
  rw [← xez, List.take_append_getElem]
theorem xh7 (out : List WE) (e : WE) : (xdc out e).map (fun q => q.1.key) = if e.1.key ∈ out.map (fun q => q.1.key) then out.map (fun q => q.1.key) else out.map (fun q => q.1.key) ++ [e.1.key] := by
  unfold xdc
  split
  · rw [List.map_map]
    refine List.map_congr_left fun q _ => ?_
    simp only [Function.comp_def]
    split
    · next h => exact h.symm
    · rfl
  · simp
theorem xdx {α : Type} {p : List α → Prop} (h0 : p []) (h1 : ∀ l x, p l → p (l ++ [x])) (l : List α) : p l := by
  have : ∀ n (l : List α), l.length = n → p l := by
    intro n
    induction n with
    | zero => intro l hl; rw [List.eq_nil_of_length_eq_zero hl]; exact h0
    | succ n ih =>
      intro l hl; rcases List.eq_nil_or_concat l with rfl | ⟨m, x, rfl⟩
      · exact h0
      · rw [List.concat_eq_append]
        refine h1 m x (ih m ?_); simp at hl; exact hl
  exact this _ l rfl
theorem xpr (es : List WE) : ((lstW es).map (fun q => q.1.key)).Nodup := by
  induction es using xdx with
  | h0 => simp [lstW]
  | h1 l x ih =>
    rw [xez, xh7]
    split
    · exact ih
    · next h =>
      rw [List.nodup_append]; exact ⟨ih, by simp, fun a ha b hb e => h (by simp at hb; subst hb; subst e; exact ha)⟩
theorem lstW_mem (es : List WE) : ∀ e ∈ lstW es, ∃ e0 ∈ es, e = clr e0 := by
  induction es using xdx with
  | h0 => intro e he; simp [lstW] at he
  | h1 l x ih =>
    intro e he; rw [xez] at he; unfold xdc at he
    split at he
    · obtain ⟨q, hq, rfl⟩ := List.mem_map.1 he
      split
      · exact ⟨x, by simp, rfl⟩
      · obtain ⟨e0, h1, h2⟩ := ih q hq
        exact ⟨e0, by simp [h1], h2⟩
    · rcases List.mem_append.1 he with he | he
      · obtain ⟨e0, h1, h2⟩ := ih e he
        exact ⟨e0, by simp [h1], h2⟩
      · rw [List.mem_singleton.1 he]
        exact ⟨x, by simp, rfl⟩
theorem xoa (es : List WE) : (lstW es).length ≤ es.length := by
  induction es using xdx with
  | h0 => simp [lstW]
  | h1 l x ih =>
    rw [xez]; unfold xdc
    split <;> simp <;> omega
def xce (ps : List (D32 × Option (List UInt8))) (k : D32) : Option (Option (List UInt8)) := ps.foldl (fun a p => if p.1 = k then some p.2 else a) none
theorem xdp (ps : List (D32 × Option (List UInt8))) (p : D32 × Option (List UInt8)) (k : D32) : xce (ps ++ [p]) k = if p.1 = k then some p.2 else xce ps k := by simp [xce, List.foldl_append]
theorem xh8 (ps : List (D32 × Option (List UInt8))) {k : D32} {o : Option (List UInt8)} (h : xce ps k = some o) : (k, o) ∈ ps := by
  induction ps using xdx with
  | h0 => simp [xce] at h
  | h1 l x ih =>
    rw [xdp] at h
    split at h
    · next e => cases h; subst e; simp
    · simp [ih h]
theorem xps (ps : List (D32 × Option (List UInt8))) {k : D32} : xce ps k = none ↔ k ∉ ps.map Prod.fst := by
  induction ps using xdx with
  | h0 => simp [xce]
  | h1 l x ih =>
    rw [xdp]
    split
    · next e => simp [e]
    · next e =>
      rw [ih]; simp only [List.map_append, List.mem_append, qk, ql, List.mem_singleton, not_or]; exact ⟨fun h => ⟨h, fun h2 => e h2.symm⟩, fun h => h.1⟩
theorem xsq (es : List WE) (k : D32) (o : Option (List UInt8)) : (k, o) ∈ (lstW es).map pw ↔ xce (es.map pw) k = some o := by
  induction es using xdx generalizing o with
  | h0 => simp [lstW, xce]
  | h1 l x ih =>
    rw [xez, List.map_append, List.map_cons, List.map_nil, xdp]; have hk1 : (pw x).1 = x.1.key := rfl; unfold xdc
    split
    · next hin =>
      rw [xhh] at hin; by_cases hkx : x.1.key = k
      · rw [if_pos (by rw [hk1]; exact hkx)]
        constructor
        · intro h
          rw [List.map_map] at h; obtain ⟨q, hq, he⟩ := List.mem_map.1 h; simp only [Function.comp_def] at he
          split at he
          · rw [xml] at he
            rw [he]
          · next hne =>
            have := congrArg Prod.fst he; have e2 : q.1.key = k := this; rw [xhh] at hne; exact absurd (e2.trans hkx.symm) hne
        · intro h
          rw [← hkx] at *; obtain ⟨q, hq, he⟩ := List.mem_map.1 hin; rw [List.map_map]; refine List.mem_map.2 ⟨q, hq, ?_⟩; simp only [Function.comp_def]; rw [if_pos (by rw [xhh]; exact he), xml]; have : (pw x).2 = o := by simpa using h
          rw [← this]; rfl
      · rw [if_neg (by rw [hk1]; exact hkx), ← ih]
        rw [List.map_map]; constructor
        · intro h
          obtain ⟨q, hq, he⟩ := List.mem_map.1 h; simp only [Function.comp_def] at he
          split at he
          · rw [xml] at he
            exact absurd (congrArg Prod.fst he) hkx
          · exact List.mem_map.2 ⟨q, hq, he⟩
        · intro h
          obtain ⟨q, hq, he⟩ := List.mem_map.1 h; refine List.mem_map.2 ⟨q, hq, ?_⟩; simp only [Function.comp_def]; have e2 : q.1.key = k := congrArg Prod.fst he; rw [if_neg (by rw [xhh, e2]; exact fun e => hkx e.symm)]; exact he
    · next hin =>
      rw [xhh] at hin; rw [List.map_append, List.mem_append, List.map_cons, List.map_nil, List.mem_singleton, xml, ih]; by_cases hkx : x.1.key = k
      · rw [if_pos (by rw [hk1]; exact hkx)]
        have hno : xce (l.map pw) k = none := by
          cases hq : xce (l.map pw) k with
          | none => rfl
          | some o' =>
            obtain ⟨q, h1, h2⟩ := List.mem_map.1 ((ih o').2 hq); exact absurd (List.mem_map.2 ⟨q, h1, (congrArg Prod.fst h2).trans hkx.symm⟩) hin
        constructor
        · rintro (h | h)
          · rw [hno] at h; cases h
          · have h9 := congrArg Prod.snd h
            simp only at h9; rw [h9]
        · intro h
          have h9 : (pw x).2 = o := by simpa using h
          right; rw [← h9, ← hkx]; rfl
      · rw [if_neg (by rw [hk1]; exact hkx)]
        constructor
        · rintro (h | h)
          · exact h
          · exact absurd (congrArg Prod.fst h).symm hkx
        · intro h; exact .inl h
theorem xld {α β : Type} (f : α → β) : ∀ (m : List β) (l : List α), m.Perm (l.map f) → ∃ l' : List α, l'.Perm l ∧ l'.map f = m
  | [], l, h => by
    have : l.map f = [] := by simpa using h.symm.eq_nil
    exact ⟨[], by rw [List.map_eq_nil_iff.1 this], rfl⟩
  | x :: t, l, h => by
    have hx : x ∈ l.map f := h.subset (by simp); obtain ⟨e, he, rfl⟩ := List.mem_map.1 hx; obtain ⟨a, b, rfl⟩ := List.append_of_mem he
    have h2 : t.Perm ((a ++ b).map f) := by
      have h3 : (f e :: t).Perm (f e :: (a ++ b).map f) := h.trans (by simp); exact List.Perm.cons_inv h3
    obtain ⟨l', h4, h5⟩ := xld f t (a ++ b) h2; exact ⟨e :: l', (h4.cons e).trans List.perm_middle.symm, by simp [h5]⟩
def xfh (es : List WE) : Prop := es.Pairwise fun p q => nOf p.1.key.l < nOf q.1.key.l
theorem rise_of {es : List WE} (h1 : Srt Wrt.ky (es.map Prod.fst)) (h2 : (es.map fun q => q.1.key).Nodup) : xfh es := by
  unfold Srt at h1; rw [List.pairwise_map] at h1; rw [List.nodup_iff_pairwise_ne, List.pairwise_map] at h2; refine (h1.and h2).imp fun {a b} h => ?_
  have h3 : nOf a.1.key.l ≤ nOf b.1.key.l := h.1; refine Nat.lt_of_le_of_ne h3 fun e => h.2 (D32.ext (xqc (by rw [a.1.key.h, b.1.key.h]) e))
def xdy (ks : List D32) : List (Value × Value) := ks.zipIdx.map fun x => (.agg x.1.c.toArray, .int .i64 (x.2 : Int))
theorem xpt (ks : List D32) : xh2 Tryz.prog 24 (xdy ks) := fun x hx => by
  obtain ⟨y, _, rfl⟩ := List.mem_map.1 hx; exact key24 y.1
theorem xq2 {a b : D32} (h : (Value.agg a.c.toArray) = .agg b.c.toArray) : a = b := by
  injection h with h; exact D32.c_inj (by simpa using congrArg Array.toList h)
theorem xpu {ks : List D32} {j : Nat} {k : D32} {u : Value} (h : (xdy ks)[j]? = some (.agg k.c.toArray, u)) : ks[j]? = some k ∧ u = .int .i64 (j : Int) := by
  unfold xdy at h; rw [List.getElem?_map, List.getElem?_zipIdx] at h
  cases hk : ks[j]? with
  | none => rw [hk] at h; cases h
  | some k' =>
    rw [hk] at h; simp only [Option.map_some, Option.some.injEq, Prod.mk.injEq, Nat.zero_add] at h; rw [xq2 h.1]; exact ⟨rfl, h.2.symm⟩
theorem kvs_no {ks : List D32} {k : D32} (h : k ∉ ks) : ∀ x ∈ xdy ks, x.1 ≠ .agg k.c.toArray := fun x hx e => by
  obtain ⟨y, hy, rfl⟩ := List.mem_map.1 hx; have e2 := xq2 e; have := List.fst_mem_of_mem_zipIdx hy; rw [e2] at this; exact h this
theorem xob (ks : List D32) (k : D32) : xdy (ks ++ [k]) = xdy ks ++ [(.agg k.c.toArray, .int .i64 (ks.length : Int))] := by
  simp [xdy, List.zipIdx_append]
theorem kvs_some {ks : List D32} {j : Nat} {k : D32} (hj : ks[j]? = some k) : (xdy ks)[j]? = some (.agg k.c.toArray, .int .i64 (j : Int)) := by
  simp [xdy, List.getElem?_zipIdx, hj]
theorem xfv {α : Type} {l : List α} (h : l.Nodup) {i j : Nat} {x : α} (hi : l[i]? = some x) (hj : l[j]? = some x) : i = j := by
  obtain ⟨h1, e1⟩ := List.getElem?_eq_some_iff.1 hi; obtain ⟨h2, e2⟩ := List.getElem?_eq_some_iff.1 hj; have hp := List.pairwise_iff_getElem.1 (List.nodup_iff_pairwise_ne.1 h); rcases Nat.lt_trichotomy i j with hlt | he | hgt
  · exact absurd (e1.trans e2.symm) (hp i j h1 h2 hlt)
  · exact he
  · exact absurd (e2.trans e1.symm) (hp j i h2 h1 hgt)
theorem xoc {out : List WE} {e : WE} {j : Nat} (h : (out.map fun q => q.1.key).Nodup) (hj : (out.map fun q => q.1.key)[j]? = some e.1.key) : xdc out e = out.set j e := by
  unfold xdc; rw [if_pos (List.mem_of_getElem? hj)]; have hjl : j < out.length := by have := (List.getElem?_eq_some_iff.1 hj).1; simpa using this
  apply List.ext_getElem (by simp); intro i h1 h2; rw [List.getElem_map, List.getElem_set]; have hil : i < out.length := by simpa using h1
  by_cases hij : j = i
  · subst hij
    rw [if_pos rfl, if_pos]; obtain ⟨h3, h4⟩ := List.getElem?_eq_some_iff.1 hj; simpa using h4
  · rw [if_neg hij, if_neg]
    intro e2; refine hij (xfv h hj ?_); rw [List.getElem?_map, List.getElem?_eq_getElem hil, Option.map_some, e2]
theorem xod {out : List WE} {e : WE} (h : e.1.key ∉ out.map fun q => q.1.key) : xdc out e = out ++ [e] := by
  unfold xdc; rw [if_neg h]
theorem zero3 (w : World) : (zeroValue 3).run Tryz.prog w = .ok (.int .i64 0) w := by kernel_rfl
theorem zr222 : ZA Tryz.prog 222 Wrt.z.cells := ⟨.agg Wrt.z.cells.toArray, by kernel_rfl, rfl⟩
theorem xe0 : ET Tryz.prog 222 (.agg Wrt.z.cells.toArray) 34 64 := ⟨by kernel_rfl, by show Wrt.z.cells.length = _; exact Wrt.len _, by omega⟩
theorem MapP.loc {w1 w : World} {D : Nat → Prop} {L : List (Nat × Nat × List Value)} {b : Nat} {es : List (Value × Value)} (h : MapP w1 b es) (H : Loc w1 D L w) (hD : D b) : MapP w b es := by
  obtain ⟨ents, clock, hb, he⟩ := h; exact ⟨ents, clock, (H.heap hD).trans hb, he⟩
theorem ins0_w (w : World) : Calls Tryz.prog 252 #[.slice none 0 0, .int .i64 0, .int .i64 0, .func (.func 230) #[] #[]] w fun e w' => e = .returned (.tuple #[]) ∧ w = w' := by
  have HL := Loc.start w; obtain ⟨w0, rfl⟩ := eW w; have H01 : Hid ((0 : Int) + 1 = ((1 : Nat) : Int)) := hZ rfl; have k14 : decide (((1 : Nat) : Int) < 0) = false := by simp
  go_enter Tryz.func252, Tryz.ntmps252; go_upto_region 0 with fail; refine X9j ?_; refine X19 ?_; go_wp2_with fail; refine wp_loop_rounds 1 ?_; rw [rounds_succ]; go_upto_region 1 with fail; refine X18 ?_; refine X9l ?_; refine X21 ?_; go_wp2_with fail
  go_end0
  exact ⟨rfl, rfl⟩
theorem pdq0_w (w : World) (r : Int) : Calls Tryz.prog 248 #[.slice none 0 0, .int .i64 0, .int .i64 0, .int .i64 r, .func (.func 230) #[] #[]] w fun e w' => e = .returned (.tuple #[]) ∧ w = w' := by
  have C := hZ (ins0_w w); have H0 : Hid ((0 : Int) - 0 = 0) := hZ (by omega); have k1 : decide ((0 : Int) ≤ 12) = true := by simp
  have HL := Loc.start w; obtain ⟨w0, rfl⟩ := eW w; go_enter Tryz.func248, Tryz.ntmps248; go_upto_region 0 with fail; refine X1j ?_; go_upto_region 1 with fail; refine X1j ?_; go_wp2_with fail; refine wp_loop_rounds 1 ?_; rw [rounds_succ]; go_upto_region 2 with fail; refine Xa1 ?_; refine X19 ?_; go_upto_region 3 with fail; refine X11 ?_; refine xaa rfl _ (xcq (b := true) _ _ rfl _ _ rfl rfl k1) ?_; refine X21 ?_; go_upto_region 4 with fail; refine X8c ?_; intro K hK; refine xac cf252 rfl _ rfl ?_; refine X1y ?_; (with_reducible refine (C.out).mono ?_); rintro e w ⟨rfl, rfl⟩; refine X22 ?_; clear hK K; go_wp2_with fail; refine bodyPost_ret (results_none rfl _ _ _) rfl ?_; exact ⟨rfl, rfl⟩
theorem sort0_w (w : World) : Calls Tryz.prog 229 #[.slice none 0 0, .func (.func 230) #[] #[]] w fun e w' => e = .returned (.tuple #[]) ∧ w = w' := by
  have C : ∀ r : Int, Hid (Calls Tryz.prog 248 #[.slice none 0 0, .int .i64 0, .int .i64 ((0 : Nat) : Int), .int .i64 r, .func (.func 230) #[] #[]] w fun e w' => e = .returned (.tuple #[]) ∧ w = w') := fun r => hZ (pdq0_w w r)
  have HL := Loc.start w; obtain ⟨w0, rfl⟩ := eW w; have HB := hZ (xn0 (0 : Int) w0 (by omega) (by omega)); have hcv : IntKind.u64.wrap (0 : Int) = 0 := rfl; go_enter Tryz.func229, Tryz.ntmps229; go_upto_region 0 with fail; refine X11 ?_; refine xaa rfl _ (xav Tryz.underlying220 _ rfl Sv.nil 0 rfl rfl) ?_; refine X19 ?_; go_upto_region 1 with fail; refine X6m ?_; refine xaa rfl _ (xd7 (k' := .u64) Tryz.underlying3 Tryz.underlying181 _ rfl .i64 ((0 : Nat) : Int) 0 rfl rfl hcv) ?_; refine X4z ?_; intro K hK; refine xac cf135 rfl _ rfl ?_; refine X1y ?_; (with_reducible refine (HB.out).mono ?_); rintro e w ⟨r, rfl, rfl⟩; refine X20 ?_; clear hK K; refine X42 ?_; intro K hK; refine xac cf248 rfl _ rfl ?_; refine X1y ?_; (with_reducible refine ((C r).out).mono ?_); rintro e w ⟨rfl, rfl⟩; refine X22 ?_; clear hK K; go_wp2_with fail
  go_end0
  exact ⟨rfl, rfl⟩
def LsR (w0 : World) (es : List WE) (gm i : Nat) (v : Value) (wr : World) : Prop :=
  ∃ (out : List WE) (G : List (Nat × Nat × List Value)) (sv : Sv), v = sv.v ∧ out = lstW (es.take i) ∧ Gw 222 34 G sv out.length ((out.map Prod.fst).flatMap Wrt.cells) ∧ MapP wr gm (xdy (out.map fun q => q.1.key)) ∧ Below w0.heap.size w0 wr ∧
    (∀ y ∈ G, w0.heap.size ≤ y.1 ∧ y.1 ≠ gm) ∧ Loc wr (Rest wr (G ++ [])) (G ++ []) wr ∧ w0.heap.size ≤ gm
def LastO (D : Nat → Prop) (w : World) (es : List WE) (e : Ending) (w' : World) : Prop :=
  ∃ (v : Sv) (es' : List WE), e = .returned v.v ∧ WriT D w' v.A v.n v.c (es'.map Prod.fst) (es'.map Prod.snd) ∧ xfh es' ∧ (∀ k o, (k, o) ∈ es'.map pw ↔ xce (es.map pw) k = some o) ∧ es'.length ≤ es.length ∧ Below w.heap.size w w' ∧ (∀ ad, v.A = some ad → w.heap.size ≤ ad.block)
theorem xmm (D : Nat → Prop) (w : World) (A : Option Addr) (n c : Nat) (es : List WE) (h : WriT D w A n c (es.map Prod.fst) (es.map Prod.snd)) (hn : n ≤ 12) (hD : ∀ k, D k → k < w.heap.size) :
    Calls Tryz.prog 187 #[.slice A n c] w (LastO D w es) := by
  have hel : es.length = n := by have := h.s.len; simpa using this
  have HW := hZ h; have HEL := hZ hel; have HDD := hZ hD; clear h hel hD; have HL := Loc.start w; obtain ⟨w0, rfl⟩ := eW w; go_enter Tryz.func187, Tryz.ntmps187; go_upto_region 0 with fail; refine X1j ?_; go_upto_region 1 with fail; refine Xs ?_; refine xq0 rfl rfl HL ?_; clear HL; intro gm w HL hM hgm _; refine Xz ?_; have HS : Hid (LsR w0 es gm 0 (.slice none 0 0) w) := hZ ⟨[], [], Sv.nil, rfl, rfl, Gw.nil 222 34, hM, HL.below, (fun y hy => by cases hy), HL.redo (Fr.refl (fun _ => False) w) (fun _ _ f => f), hgm⟩; clear hM hgm; go_upto_region 2 with fail; refine X1j ?_; go_upto_region 3 with fail; refine Xa2 ?_; refine X1e ?_; clear HL; go_wp2_with fail
  go_loopw [4, 12] (fun v z wr => ∃ i : Nat, i ≤ n ∧ z = .int .i64 (i : Int) ∧ LsR w0 es gm i v wr) (fun _ z _ => (n - intOf z).toNat)
  case atStart => exact ⟨0, Nat.zero_le _, rfl, HS.out⟩
  case round => as_aux_lemma =>
    clear HS; obtain ⟨i, hi, rfl, out, G, sv, rfl, hout, hG, hM, hB, hGN, HL, hgm⟩ := hrel; obtain ⟨w, rfl⟩ := eW wr; obtain ⟨w1, rfl⟩ := eW w; have HG := hZ hG; have HM := hZ hM; have HB := hZ hB; have HGN := hZ hGN; have HGM := hZ hgm; have HOUT := hZ hout; have HND : Hid ((out.map fun q => q.1.key).Nodup) := hZ (by rw [hout]; exact xpr _)
    have HOL : out.length ≤ i := by
      rw [hout]; refine Nat.le_trans (xoa _) ?_; rw [List.length_take]; omega
    have HGD : Hid (Rest w1 (G ++ []) gm) := hZ ⟨hM.lt, fun u hu e => (hGN u (by simpa using hu)).2 e⟩; have HMW : Hid (∀ {L : List (Nat × Nat × List Value)} {W : World}, Loc w1 (Rest w1 (G ++ [])) L W → MapP W gm (xdy (out.map fun q => q.1.key))) := hZ (fun hW => HM.out.loc hW HGD.out); have HMP : ∀ (L : List (Nat × Nat × List Value)) (W : World), Loc w1 (Rest w1 (G ++ [])) L W → Hid (MapP W gm (xdy (out.map fun q => q.1.key))) := fun L W hW => hZ (HM.out.loc hW HGD.out)
    have HBW : ∀ (L : List (Nat × Nat × List Value)) (W : World), Loc w1 (Rest w1 (G ++ [])) L W → Hid (Below w0.heap.size w0 W) := fun L W hW => hZ (HB.out.trans (hW.belowR _ HB.out.size (fun u hu => (HGN.out u (by simpa using hu)).1)))
    clear hG hM hB hGN hgm hout; by_cases hlt : i < n
    · have k4 : decide ((i : Int) < (n : Int)) = true := by simp; omega
      refine X9a ?_; intro HI; have hil : i < es.length := by rw [HEL.out]; exact hlt
      have HIL := hZ hil; have hil2 : i < (es.map Prod.fst).length := by simpa using hil
      obtain ⟨ad, hA, hrd0⟩ := HW.out.s.at_ i hil2; refine X9b ?_; intro HSV
      have HRD : ∀ (L : List (Nat × Nat × List Value)) (W : World), Loc w1 (Rest w1 (G ++ [])) L W → Hid (Rd W (some (ad.add (i * 34))) es[i].1.cells) := fun L W hW => hZ (by
        obtain ⟨ad2, hA2, h2⟩ := (HW.out.s.below (HBW L W hW).out).at_ i hil2; rw [hA] at hA2; cases hA2; rw [List.getElem_map] at h2
        exact h2)
      obtain ⟨⟨x, lx⟩, hx⟩ : ∃ x, es[i] = x := ⟨_, rfl⟩; rw [hx] at HRD; clear hA hrd0 hil2; go_upto_region 4 with fail; refine Xa3 ?_; go_upto_region 5 with fail; refine Xs ?_; refine xaa rfl _ (xbf xcd (.tmp 10) _ rfl ad n c i .i64 HSV.out rfl hlt) ?_; refine X5 ?_; refine Xa4 ?_; refine X5 ?_; refine xai zr222 rfl rfl HL ?_; clear HL; intro g6 w HL; refine X5 ?_; refine Xa5 ?_; refine X35 ?_; clear HL; intro w HL
      cases hg : x.gone with
      | true =>
        refine Xa6 ?_; intro HGO; have HCL : Hid (clr es[i] = ((⟨x.key, true, Sv.nil⟩ : Wrt), [])) := hZ (by rw [hx]; exact xn8 hg); have HSY : Hid (x.cells.set 33 Sv.nil.v = (⟨x.key, true, Sv.nil⟩ : Wrt).cells) := hZ (by rw [Wrt.s_val, ← hg]); clear hx; go_upto_region 6 with fail; refine Xa7 ?_; refine Xa8 ?_; refine X21 ?_; go_upto_region 7 with fail; refine Xs ?_; refine xaa rfl _ (xaf xg9 _ rfl _ rfl) ?_; refine X5 ?_; refine xa1 sc25 rfl _ _ rfl HL 0 _ _ _ _ (⟨x.key, true, Sv.nil⟩ : Wrt).cells Sv.nil.v rfl rfl rfl rfl (by rw [Wrt.len]; decide) HSY.out ?_; refine X2u ?_; clear HL; intro w HL; obtain ⟨y, hy⟩ : ∃ y, (⟨x.key, true, Sv.nil⟩ : Wrt) = y := ⟨_, rfl⟩; obtain ⟨ly, hly⟩ : ∃ ly, ([] : List UInt8) = ly := ⟨_, rfl⟩; rw [hy] at HL HCL; rw [hly] at HCL; clear HGO HSY hg hy hly; obtain ⟨kl, hkl⟩ := key24 y.key; have HKL := hZ hkl; clear hkl
        by_cases hin : y.key ∈ out.map fun q => q.1.key
        · skip
          obtain ⟨j, hj⟩ := List.mem_iff_getElem?.1 hin; have hjo : j < out.length := by have := (List.getElem?_eq_some_iff.1 hj).1; simpa using this
          have HJ := hZ hj; refine Xa9 ?_; intro HLK
          have HLK2 : Hid (∀ (j' : Nat) (u : Value), (xdy (out.map fun q => q.1.key))[j']? = some (.agg y.key.c.toArray, u) → Value.int .i64 (j : Int) = u ∧ true = true) := hZ (fun j' u h => by
            obtain ⟨h1, h2⟩ := xpu h; have e := xfv HND.out hj h1; subst e
            exact ⟨h2.symm, rfl⟩)
          obtain ⟨gG, tl, cap, rfl, rfl, hcap⟩ := HG.out.some (by omega); clear hj hin; go_upto_region 8 with fail; refine Xaa ?_; refine X5 ?_; refine Xab ?_; refine X7c ?_; go_upto_region 9 with fail; refine X11 ?_; refine Xx ?_; go_upto_region 10 with fail; refine X18 ?_; refine Xac ?_; refine Xad ?_; refine X5 ?_; refine xf2 ag222 rfl _ _ rfl HL 1 gG (j * 34) 222 _ _ _ rfl rfl rfl (Wrt.len _) (by rw [List.length_append, xcc Wrt.len, List.length_map]; omega) (Wrt.one _) (xd8 Wrt.len (out.map Prod.fst) tl j y (by rw [List.length_map]; exact hjo)) ?_; clear HL; intro w HL; simp only [qg, qh, qm, qn] at HL; refine X16 ?_
          have HF : Hid (LsR w0 es gm (i + 1) (.slice (some ⟨gG, 0, none⟩) out.length cap) w) := hZ (by
            have hst : xdc out (y, ly) = out.set j (y, ly) := xoc HND.out HJ.out; refine Xae ?_; intro hB2; have hGf := HG.out; have hMf := HM.out; have hND := HND.out
            have hke : ((out.set j (y, ly)).map fun q => q.1.key) = out.map fun q => q.1.key := by
              have h1 := xh7 out (y, ly); rw [hst, if_pos (List.mem_of_getElem? HJ.out)] at h1; exact h1
            have hLd := HL.drop [(gG, 222, ((out.map Prod.fst).set j y).flatMap Wrt.cells ++ tl)] (sB _ _); refine ⟨out.set j (y, ly), [(gG, 222, ((out.map Prod.fst).set j y).flatMap Wrt.cells ++ tl)], ⟨some ⟨gG, 0, none⟩, out.length, cap⟩, rfl, by have h9 := xgb HIL.out; rw [← HOUT.out] at h9; exact (h9.trans ((congrArg (xdc out) HCL.out).trans hst)).symm, ?_, ?_, hB2, fun u hu => ?_, by simpa using hLd.redo (Fr.refl (fun _ => False) w) (fun _ _ f => f), HGM.out⟩
            · rw [List.length_set, List.map_set]
              obtain ⟨h1, h2⟩ := hGf; rcases h2 with ⟨h3, _⟩ | ⟨g', c', tl', h3, h4, h5, h6, h7⟩
              · cases h3
              · have e1 := List.head_eq_of_cons_eq h3
                simp only [Prod.mk.injEq, List.append_cancel_left_eq, true_and] at e1; injection h4 with _ _ e5; obtain ⟨e2, e3⟩ := e1; subst e5; refine ⟨by rw [xcc Wrt.len, List.length_set, List.length_map], .inr ⟨gG, cap, tl, rfl, rfl, h5, h6, ?_⟩⟩; have e6 : (out.map Prod.fst).flatMap Wrt.cells ++ tl = (out.map Prod.fst).flatMap Wrt.cells ++ tl' := by first | rw [e3] | rfl
                rw [e6] at *; rw [List.length_append, xcc Wrt.len] at h7 ⊢; rw [List.length_set]; rw [e3]; exact h7
            · rw [hke]; exact HMW.out HL
            · rw [List.mem_singleton.1 hu]
              have h8 := HGN.out _ (List.mem_singleton.2 rfl)
              exact h8)
          go_upto_region 13 with fail; refine Xaf ?_; go_wp2_with fail; go_roundw
          case rel => exact ⟨i + 1, by omega, rfl, HF.out⟩
          case measure => simp [intOf] <;> omega
        · skip
          refine Xag ?_; intro HLK; refine Xah ?_; intro HLK2; have HNO := hZ hin; have HSL : Hid (sv.n = out.length) := hZ HG.out.len; clear hin; go_upto_region 8 with fail; refine Xaa ?_; refine X5 ?_; refine Xai ?_; refine X7c ?_; go_upto_region 9 with fail; refine X11 ?_; refine Xx ?_; go_upto_region 11 with fail; refine Xaa ?_; refine Xaj ?_; refine X4z ?_; intro K hK; refine Xak ?_; intro w2 hM2 hg2; have hB2 : Below w0.heap.size w0 w2 := (HB.out.trans (HL.belowR _ HB.out.size (fun u hu => (HGN.out u (by simpa using hu)).1))).grown hg2 (Nat.le_trans HB.out.size HL.fr.size) (fun k hk => by cases hk; exact HGM.out); have hL2 := (HL.less (D' := fun k => Rest w1 (G ++ []) k ∧ k ≠ gm) (fun k h => h.1)).aside hg2 (fun h => h.2 rfl) (fun u hu e => (HL.own u hu).1 (by rw [e]; exact HGD.out))
          have hne : ∀ u ∈ (g6, 222, y.cells) :: (G ++ []), u.1 ≠ gm := fun u hu e => (HL.own u hu).1 (by rw [e]; exact HGD.out)
          have HL3 := hL2.redo (Fr.refl (fun _ => False) w2) (fun _ _ f => f)
          have HG6 : Hid (w0.heap.size ≤ g6) := hZ (Nat.le_of_not_lt fun hlt => (HL.own _ (.head _)).1 ⟨Nat.lt_of_lt_of_le hlt HB.out.size, fun u hu e => by
            have h1 := (HGN.out u (by simpa using hu)).1; have e : u.1 = g6 := e
            omega⟩)
          refine hK _ _ ?_; clear hK K; clear HL hL2; have HL := HL3; have HMN := hZ hM2; have HB3 := hZ hB2; have HNE := hZ hne; clear HL3 hM2 hB2 hne hg2; obtain ⟨w, rfl⟩ : ∃ w, w = w2 := ⟨_, rfl⟩; refine Xal ?_; intro HDM; obtain ⟨w3, rfl⟩ := eW w; go_upto_region 12 with fail; refine X11 ?_; refine Xac ?_; refine X5 ?_; refine xb7 xcd xe0 (by decide) rfl _ rfl HL _ rfl (Wrt.len _) ?_; clear HL; intro g38 w HL; refine X4z ?_; intro K hK; refine xa9 xcd xe0 _ _ rfl [_, _] out.length sv _ HG.out HL rfl ⟨g38, 0, none⟩ 1 1 y.cells rfl (Rd.of_blk0 (es := []) (by rw [List.append_nil]; exact HL.blk (.head _))) (Wrt.len _) (Wrt.one _) (by decide) (by omega) (by omega) ?_; clear HL; intro sv' G' w hG' HL; simp only [qm, qn] at HL; refine X8z ?_; clear hK K
          have HF : Hid (LsR w0 es gm (i + 1) sv'.v w) := hZ (by
            have hst : xdc out (y, ly) = out ++ [(y, ly)] := xod HNO.out; have hLd := HL.drop (G' ++ []) (sA [_, _] _)
            have hB2 : Below w0.heap.size w0 w := HB3.out.trans (HL.belowR _ HB3.out.size (fun u hu => by
              rcases List.mem_cons.1 hu with rfl | hu
              · exact HG6.out
              · exact (HGN.out u (by simpa using hu)).1))
            refine Xam ?_; intro hMW hGo; refine ⟨out ++ [(y, ly)], G', sv', rfl, by have h9 := xgb HIL.out; rw [← HOUT.out] at h9; exact (h9.trans ((congrArg (xdc out) HCL.out).trans hst)).symm, ?_, ?_, hB2, fun u hu => ⟨?_, fun e => hGo u hu (by rw [e]; exact HDM.out)⟩, hLd.redo (Fr.refl (fun _ => False) w) (fun _ _ f => f), HGM.out⟩
            · have h1 := hG'
              rw [List.map_append, List.flatMap_append, List.length_append]; simpa using h1
            · rw [List.map_append, List.map_cons, List.map_nil, xob]
              simpa using hMW
            · refine Nat.le_of_not_lt fun hlt => hGo u hu ⟨Nat.lt_of_lt_of_le hlt HB3.out.size, fun z hz e => ?_⟩
              rcases List.mem_cons.1 hz with rfl | hz
              · have h9 := HG6.out
                have e : g6 = u.1 := e; omega
              · have h9 := (HGN.out z (by simpa using hz)).1
                omega)
          go_upto_region 13 with fail; refine Xaf ?_; go_wp2_with fail; go_roundw
          case rel => exact ⟨i + 1, by omega, rfl, HF.out⟩
          case measure => simp [intOf] <;> omega
      | false =>
        refine Xan ?_; intro HGO; have HCL : Hid (clr es[i] = (x, lx)) := hZ (by rw [hx]; exact xn9 hg); clear hx hg; go_upto_region 6 with fail; refine Xa7 ?_; refine Xao ?_; refine X21 ?_; obtain ⟨y, rfl⟩ : ∃ y, y = x := ⟨_, rfl⟩; obtain ⟨ly, rfl⟩ : ∃ ly, ly = lx := ⟨_, rfl⟩; obtain ⟨kl, hkl⟩ := key24 y.key; have HKL := hZ hkl; clear hkl; by_cases hin : y.key ∈ out.map fun q => q.1.key
        · skip
          obtain ⟨j, hj⟩ := List.mem_iff_getElem?.1 hin; have hjo : j < out.length := by have := (List.getElem?_eq_some_iff.1 hj).1; simpa using this
          have HJ := hZ hj; refine Xa9 ?_; intro HLK
          have HLK2 : Hid (∀ (j' : Nat) (u : Value), (xdy (out.map fun q => q.1.key))[j']? = some (.agg y.key.c.toArray, u) → Value.int .i64 (j : Int) = u ∧ true = true) := hZ (fun j' u h => by
            obtain ⟨h1, h2⟩ := xpu h; have e := xfv HND.out hj h1; subst e
            exact ⟨h2.symm, rfl⟩)
          obtain ⟨gG, tl, cap, rfl, rfl, hcap⟩ := HG.out.some (by omega); clear hj hin; go_upto_region 8 with fail; refine Xaa ?_; refine X5 ?_; refine Xab ?_; refine X7c ?_; go_upto_region 9 with fail; refine X11 ?_; refine Xx ?_; go_upto_region 10 with fail; refine X18 ?_; refine Xac ?_; refine Xad ?_; refine X5 ?_; refine xf2 ag222 rfl _ _ rfl HL 1 gG (j * 34) 222 _ _ _ rfl rfl rfl (Wrt.len _) (by rw [List.length_append, xcc Wrt.len, List.length_map]; omega) (Wrt.one _) (xd8 Wrt.len (out.map Prod.fst) tl j y (by rw [List.length_map]; exact hjo)) ?_; clear HL; intro w HL; simp only [qg, qh, qm, qn] at HL; refine X16 ?_
          have HF : Hid (LsR w0 es gm (i + 1) (.slice (some ⟨gG, 0, none⟩) out.length cap) w) := hZ (by
            have hst : xdc out (y, ly) = out.set j (y, ly) := xoc HND.out HJ.out; refine Xae ?_; intro hB2; have hGf := HG.out; have hMf := HM.out; have hND := HND.out
            have hke : ((out.set j (y, ly)).map fun q => q.1.key) = out.map fun q => q.1.key := by
              have h1 := xh7 out (y, ly); rw [hst, if_pos (List.mem_of_getElem? HJ.out)] at h1; exact h1
            have hLd := HL.drop [(gG, 222, ((out.map Prod.fst).set j y).flatMap Wrt.cells ++ tl)] (sB _ _); refine ⟨out.set j (y, ly), [(gG, 222, ((out.map Prod.fst).set j y).flatMap Wrt.cells ++ tl)], ⟨some ⟨gG, 0, none⟩, out.length, cap⟩, rfl, by have h9 := xgb HIL.out; rw [← HOUT.out] at h9; exact (h9.trans ((congrArg (xdc out) HCL.out).trans hst)).symm, ?_, ?_, hB2, fun u hu => ?_, by simpa using hLd.redo (Fr.refl (fun _ => False) w) (fun _ _ f => f), HGM.out⟩
            · rw [List.length_set, List.map_set]
              obtain ⟨h1, h2⟩ := hGf; rcases h2 with ⟨h3, _⟩ | ⟨g', c', tl', h3, h4, h5, h6, h7⟩
              · cases h3
              · have e1 := List.head_eq_of_cons_eq h3
                simp only [Prod.mk.injEq, List.append_cancel_left_eq, true_and] at e1; injection h4 with _ _ e5; obtain ⟨e2, e3⟩ := e1; subst e5; refine ⟨by rw [xcc Wrt.len, List.length_set, List.length_map], .inr ⟨gG, cap, tl, rfl, rfl, h5, h6, ?_⟩⟩; have e6 : (out.map Prod.fst).flatMap Wrt.cells ++ tl = (out.map Prod.fst).flatMap Wrt.cells ++ tl' := by first | rw [e3] | rfl
                rw [e6] at *; rw [List.length_append, xcc Wrt.len] at h7 ⊢; rw [List.length_set]; rw [e3]; exact h7
            · rw [hke]; exact HMW.out HL
            · rw [List.mem_singleton.1 hu]
              have h8 := HGN.out _ (List.mem_singleton.2 rfl)
              exact h8)
          go_upto_region 13 with fail; refine Xaf ?_; go_wp2_with fail; go_roundw
          case rel => exact ⟨i + 1, by omega, rfl, HF.out⟩
          case measure => simp [intOf] <;> omega
        · skip
          refine Xag ?_; intro HLK; refine Xah ?_; intro HLK2; have HNO := hZ hin; have HSL : Hid (sv.n = out.length) := hZ HG.out.len; clear hin; go_upto_region 8 with fail; refine Xaa ?_; refine X5 ?_; refine Xai ?_; refine X7c ?_; go_upto_region 9 with fail; refine X11 ?_; refine Xx ?_; go_upto_region 11 with fail; refine Xaa ?_; refine Xaj ?_; refine X4z ?_; intro K hK; refine Xak ?_; intro w2 hM2 hg2; have hB2 : Below w0.heap.size w0 w2 := (HB.out.trans (HL.belowR _ HB.out.size (fun u hu => (HGN.out u (by simpa using hu)).1))).grown hg2 (Nat.le_trans HB.out.size HL.fr.size) (fun k hk => by cases hk; exact HGM.out); have hL2 := (HL.less (D' := fun k => Rest w1 (G ++ []) k ∧ k ≠ gm) (fun k h => h.1)).aside hg2 (fun h => h.2 rfl) (fun u hu e => (HL.own u hu).1 (by rw [e]; exact HGD.out))
          have hne : ∀ u ∈ (g6, 222, y.cells) :: (G ++ []), u.1 ≠ gm := fun u hu e => (HL.own u hu).1 (by rw [e]; exact HGD.out)
          have HL3 := hL2.redo (Fr.refl (fun _ => False) w2) (fun _ _ f => f)
          have HG6 : Hid (w0.heap.size ≤ g6) := hZ (Nat.le_of_not_lt fun hlt => (HL.own _ (.head _)).1 ⟨Nat.lt_of_lt_of_le hlt HB.out.size, fun u hu e => by
            have h1 := (HGN.out u (by simpa using hu)).1; have e : u.1 = g6 := e
            omega⟩)
          refine hK _ _ ?_; clear hK K; clear HL hL2; have HL := HL3; have HMN := hZ hM2; have HB3 := hZ hB2; have HNE := hZ hne; clear HL3 hM2 hB2 hne hg2; obtain ⟨w, rfl⟩ : ∃ w, w = w2 := ⟨_, rfl⟩; refine Xal ?_; intro HDM; obtain ⟨w3, rfl⟩ := eW w; go_upto_region 12 with fail; refine X11 ?_; refine Xac ?_; refine X5 ?_; refine xb7 xcd xe0 (by decide) rfl _ rfl HL _ rfl (Wrt.len _) ?_; clear HL; intro g38 w HL; refine X4z ?_; intro K hK; refine xa9 xcd xe0 _ _ rfl [_, _] out.length sv _ HG.out HL rfl ⟨g38, 0, none⟩ 1 1 y.cells rfl (Rd.of_blk0 (es := []) (by rw [List.append_nil]; exact HL.blk (.head _))) (Wrt.len _) (Wrt.one _) (by decide) (by omega) (by omega) ?_; clear HL; intro sv' G' w hG' HL; simp only [qm, qn] at HL; refine X8z ?_; clear hK K
          have HF : Hid (LsR w0 es gm (i + 1) sv'.v w) := hZ (by
            have hst : xdc out (y, ly) = out ++ [(y, ly)] := xod HNO.out; have hLd := HL.drop (G' ++ []) (sA [_, _] _)
            have hB2 : Below w0.heap.size w0 w := HB3.out.trans (HL.belowR _ HB3.out.size (fun u hu => by
              rcases List.mem_cons.1 hu with rfl | hu
              · exact HG6.out
              · exact (HGN.out u (by simpa using hu)).1))
            refine Xam ?_; intro hMW hGo; refine ⟨out ++ [(y, ly)], G', sv', rfl, by have h9 := xgb HIL.out; rw [← HOUT.out] at h9; exact (h9.trans ((congrArg (xdc out) HCL.out).trans hst)).symm, ?_, ?_, hB2, fun u hu => ⟨?_, fun e => hGo u hu (by rw [e]; exact HDM.out)⟩, hLd.redo (Fr.refl (fun _ => False) w) (fun _ _ f => f), HGM.out⟩
            · have h1 := hG'
              rw [List.map_append, List.flatMap_append, List.length_append]; simpa using h1
            · rw [List.map_append, List.map_cons, List.map_nil, xob]
              simpa using hMW
            · refine Nat.le_of_not_lt fun hlt => hGo u hu ⟨Nat.lt_of_lt_of_le hlt HB3.out.size, fun z hz e => ?_⟩
              rcases List.mem_cons.1 hz with rfl | hz
              · have h9 := HG6.out
                have e : g6 = u.1 := e; omega
              · have h9 := (HGN.out z (by simpa using hz)).1
                omega)
          go_upto_region 13 with fail; refine Xaf ?_; go_wp2_with fail; go_roundw
          case rel => exact ⟨i + 1, by omega, rfl, HF.out⟩
          case measure => simp [intOf] <;> omega
    · have k4 : decide ((i : Int) < (n : Int)) = false := by simp; omega
      have hin : i = n := by omega
      have HFO : Hid (out = lstW es) := hZ (by rw [HOUT.out, List.take_of_length_le (by have := HEL.out; omega)]); clear hlt
      have HLF : Hid (∀ (es' : List WE) (v : Sv) (w' : World), es'.Perm out → Srt Wrt.ky (es'.map Prod.fst) → Below w0.heap.size w0 w' → Rd w' v.A ((es'.map Prod.fst).flatMap Wrt.cells) → es'.length = v.n → v.n ≤ v.c → (∀ ad, v.A = some ad → w0.heap.size ≤ ad.block) → LastO D w0 es (.returned v.v) w') := hZ (fun es' v w' hp hs hb hr hl hc hf => by
        have hnd : (es'.map fun q => q.1.key).Nodup := (hp.map _).nodup_iff.2 HND.out
        have hsub : ∀ q ∈ es', ∃ (i : Nat) (hi : i < es.length), q = clr es[i] := fun q hq => by
          have h1 := hp.subset hq; rw [HFO.out] at h1; obtain ⟨e0, h2, h3⟩ := lstW_mem es q h1; obtain ⟨i, hi, h4⟩ := List.getElem_of_mem h2; exact ⟨i, hi, by rw [h4]; exact h3⟩
        have htx : ∀ q ∈ es', Tx w' q.1.val.A q.1.val.n q.1.val.c q.2 ∧ (q.2 ≠ [] → ∀ ad, q.1.val.A = some ad → ¬ D ad.block) := fun q hq => by
          obtain ⟨i, hi, rfl⟩ := hsub q hq
          cases hg : es[i].1.gone with
          | true => rw [xn8 hg]; exact ⟨tx_nil w', fun h => absurd rfl h⟩
          | false =>
            rw [xn9 hg]; have h1 := HW.out.tx i (by simpa using hi); have h2 := HW.out.dv i (by simpa using hi); simp only [List.getElem_map, List.getD_eq_getElem?_getD, List.getElem?_map, List.getElem?_eq_getElem hi, Option.map_some, qe] at h1 h2; exact ⟨h1.below hb, h2⟩
        refine ⟨v, es', rfl, ⟨⟨hr, by simpa using hl, hc⟩, by simp, fun i hi => ?_, fun hne ad e hk => ?_, fun i hi hne => ?_⟩, rise_of hs hnd, fun k o => ?_, ?_, hb, hf⟩
        · have hi2 : i < es'.length := by simpa using hi
          have := (htx _ (List.getElem_mem hi2)).1; simpa [List.getD_eq_getElem?_getD, List.getElem?_map, List.getElem?_eq_getElem hi2] using this
        · have h1 := HDD.out _ hk
          have h2 := hf ad e; omega
        · have hi2 : i < es'.length := by simpa using hi
          have := (htx _ (List.getElem_mem hi2)).2; simp only [List.getD_eq_getElem?_getD, List.getElem?_map, List.getElem?_eq_getElem hi2, Option.map_some, qe, List.getElem_map] at hne ⊢; exact this hne
        · rw [← xsq, ← HFO.out]
          exact (hp.map pw).mem_iff
        · rw [hp.length_eq, HFO.out]; exact xoa es)
      go_upto_region 4 with fail; refine Xa3 ?_; have hol : out.length ≤ 12 := by omega
      rcases HG.out with ⟨hl, ⟨rfl, rfl, h0⟩ | ⟨gG, cap, tl, rfl, rfl, hcap, _⟩⟩
      · have CS : Hid (Calls Tryz.prog 229 #[Sv.nil.v, .func (.func 230) #[] #[]] w1 fun e w' => e = .returned (.tuple #[]) ∧ w1 = w') := hZ (sort0_w w1)
        have e0 : out = [] := List.eq_nil_of_length_eq_zero h0; clear hl h0; go_upto_region 14 with fail; refine X1x ?_; intro K hK; refine xac cf229 rfl _ rfl ?_; refine X1y ?_; (with_reducible refine (CS.out).mono ?_); rintro e w ⟨rfl, rfl⟩; refine X22 ?_; clear hK K; go_upto_region 15 with fail; refine X7j ?_; go_wp2_with fail; go_ret; exact HLF.out [] Sv.nil w1 (by rw [e0]) List.Pairwise.nil HB.out (Rd.nil _ _) rfl (Nat.le_refl _) (fun ad e => by cases e)
      · have CS : Hid (Calls Tryz.prog 229 #[(⟨some ⟨gG, 0, none⟩, out.length, cap⟩ : Sv).v, .func (.func 230) #[] #[]] w1 fun e w' => e = .returned (.tuple #[]) ∧ ∃ ws', ws'.Perm (out.map Prod.fst) ∧ Srt Wrt.ky ws' ∧ Blk w' gG 222 (ws'.flatMap Wrt.cells ++ tl) ∧ Fr (· = gG) w1 w') := hZ (sort_w gG out.length cap (out.map Prod.fst) tl w1 (by simpa using HL.blk (.head _)) (by simp) hcap hol)
        clear hl; go_upto_region 14 with fail; refine X1x ?_; intro K hK; refine xac cf229 rfl _ rfl ?_; refine X1y ?_; (with_reducible refine (CS.out).mono ?_); rintro e w ⟨rfl, ws', hp, hs, hb, hf⟩; have HLn := HL.putF (i := 0) rfl hb hf; have HB2 : Hid (Below w0.heap.size w0 w) := hZ (HB.out.trans (HLn.belowR _ HB.out.size (fun u hu => (HGN.out u (by simpa using hu)).1))); clear HL hf; have HL := HLn; clear HLn; simp only [qg, qm, qn] at HL; refine X22 ?_; clear hK K; go_upto_region 15 with fail; refine X7j ?_; go_wp2_with fail; go_ret; obtain ⟨es', hp2, hm2⟩ := xld Prod.fst ws' out hp; subst hm2; refine HLF.out es' ⟨some ⟨gG, 0, none⟩, out.length, cap⟩ w hp2 hs HB2.out (Rd.of_blk0 hb) hp2.length_eq hcap (fun ad e => ?_); cases e; exact (HGN.out _ (List.mem_singleton.2 rfl)).1
theorem xsr {P : Program} {T E : TypeId} {z b : Nat} {zv : Value} {w0 w : World} {D : Nat → Prop} {L : List (Nat × Nat × List Value)} {o : Oper} {a : Act} {K : Act → World → Prop} {Q : Exit → Act → World → Prop} (B : ST P T E z) (I : ET P E zv z b) (hz : z ≤ 10000) (x : Operand) (ho : o.op = .buildSlice T 1 #[(0, x)]) (H : Loc w0 D L w) (cs : List Value) (hx : a.eval x = .agg cs.toArray) (hl : cs.length = z)
    (h : ∀ g w', Loc w0 D ((g, E, cs) :: L) w' → K (a.put o.dst (.slice (some ⟨g, 0, none⟩) 1 1)) w') : o.wp P a w K Q := xhz B I hz x ho cs hx hl (h _ _ (H.new E cs))
end Go.Proofs.YtkjjdgnkelchfaaGreat
