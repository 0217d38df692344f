/- The walk of TagApart: it says true for every keys, values and digests. -/
import Derived.Test.YtehbahobkgoapaaTa
namespace Go.Proofs.Ytehbahobkgoapaa
open Go Go.RowKit
set_option linter.unusedSimpArgs false
set_option linter.unusedVariables false

/-- A text that can be read. -/
def Tx (w : World) (A : Option Addr) (n c : Nat) (l : List UInt8) : Prop := Lft (fun _ => False) w A n c l
theorem Tx.below {w w' : World} {A : Option Addr} {n c : Nat} {l : List UInt8} (h : Tx w A n c l) (hb : Below w.heap.size w w') : Tx w' A n c l := ⟨h.len, h.cap, h.max, h.rd.below hb, fun _ _ h => h⟩
theorem Tx.alloc {w : World} {A : Option Addr} {n c : Nat} {l : List UInt8} (h : Tx w A n c l) (o : Obj) : Tx (w.alloc o) A n c l := h.below ((Below.refl _ _).alloc (Nat.le_refl _) o)
theorem own_tx {w : World} {base E n : Nat} {v : Value} {l : List UInt8} (h : OwnB w base E v l) (hl : l.length = n) : ∃ A c, v = .slice A n c ∧ Tx w A n c l := by
  obtain ⟨A, c, e, h1, h2, h3⟩ := h.rd
  rw [hl] at e h1
  exact ⟨A, c, e, hl, h1, h2, h3, fun _ _ h => h⟩
theorem sum_tx (A : Option Addr) (n c : Nat) (l : List UInt8) (w : World) (h : Tx w A n c l) (hn : n ≤ 1152921504606846976) : Calls Try.prog 79 #[.slice A n c] w fun e w' => e = .returned (arr8 (shaL l)) ∧ Below w.heap.size w w' :=
  sum_any A n c l w h.rd h.len h.cap h.max hn
theorem same_tx (A : Option Addr) (n c : Nat) (l : List UInt8) (B : Option Addr) (m d : Nat) (k : List UInt8) (w : World) (ha : Tx w A n c l) (hb : Tx w B m d k) (E : Bool) (hE : (l == k) = E) :
    Calls Try.prog 33 #[.slice A n c, .slice B m d] w fun e w' => e = .returned (.bool E) ∧ w = w' := by
  subst hE
  exact same_bytes A n c l B m d k w ha.rd ha.len hb.rd hb.len
theorem exec_eql_to {P : Program} {w : World} {a : Act} {o : Oper} {T T' n : Nat} {b : Bool} (B : AB P T n) (x y : Operand) (ho : o.op = .binOp .eql T x y T') (xs ys : List UInt8) (ex : a.eval x = .agg (bvs xs).toArray) (ey : a.eval y = .agg (bvs ys).toArray) (hx : xs.length = n) (hy : ys.length = n) (h : (xs == ys) = b) :
    (execOp a.eval o).run P w = .ok (.value (.bool b)) w := by rw [exec_eql_arr B x y ho xs ys ex ey hx hy, h]
set_option maxRecDepth 100000 in
theorem shaE_ne : (shaL [0] == zb 32) = false := by decide +kernel
theorem two_eq (t : UInt8) (k a j b : List UInt8) (h : k.length = j.length) : ((t :: (k ++ a)) == (t :: (j ++ b))) = ((k == j) && (a == b)) := by
  rw [Bool.eq_iff_iff]
  simp only [beq_iff_eq, List.cons.injEq, true_and, Bool.and_eq_true]
  constructor
  · intro e
    exact List.append_inj e h
  · rintro ⟨rfl, rfl⟩; rfl
theorem cons_eq8 (t : UInt8) (l k : List UInt8) : ((t :: l) == (t :: k)) = (l == k) := by
  rw [Bool.eq_iff_iff]; simp
theorem tag_ne (i q : Nat) (hi : i < 4) (hq : q < i) (l k : List UInt8) : ((UInt8.ofNat i :: l) == (UInt8.ofNat q :: k)) = false := by
  rw [beq_eq_false_iff_ne]
  intro e
  have h := (List.cons.inj e).1
  have h2 := congrArg UInt8.toNat h
  rw [UInt8.toNat_ofNat', UInt8.toNat_ofNat'] at h2
  omega
theorem swap_eq (a b : List UInt8) (h : a.length = b.length) : ((2 :: (a ++ b)) == ((2 : UInt8) :: (b ++ a))) = (a == b) := by
  rw [two_eq 2 a b b a h, Bool.eq_iff_iff]
  simp only [Bool.and_eq_true, beq_iff_eq]
  constructor
  · exact fun h => h.1
  · rintro rfl; exact ⟨rfl, rfl⟩

set_option maxRecDepth 100000 in
set_option maxHeartbeats 8000000 in
theorem tag_apart (k j : List UInt8) (A : Option Addr) (n c : Nat) (l : List UInt8) (B : Option Addr) (m d : Nat) (l2 : List UInt8) (a b : List UInt8) (w : World) (lk : k.length = 32) (lj : j.length = 32) (la : a.length = 32) (lb : b.length = 32)
    (hr : Rd w A (bvs l)) (hl : l.length = n) (hcap : n ≤ c) (hmax : c ≤ 140737488351232) (hr2 : Rd w B (bvs l2)) (hl2 : l2.length = m) (hcap2 : m ≤ d) (hmax2 : d ≤ 140737488351232) :
    Calls Try.prog 18 #[.agg (bvs k).toArray, .agg (bvs j).toArray, .slice A n c, .slice B m d, .agg (bvs a).toArray, .agg (bvs b).toArray] w fun e w' => e = .returned (.bool true) ∧ Below w.heap.size w w' := by
  have hml : (140737488351232 : Nat) ≤ maxLen := by unfold maxLen; omega
  have tx0 : Tx w A n c l := ⟨hl, hcap, by omega, hr, fun _ _ h => h⟩
  have ty0 : Tx w B m d l2 := ⟨hl2, hcap2, by omega, hr2, fun _ _ h => h⟩
  have HK := Lib.hid lk
  have HJ := Lib.hid lj
  have HA := Lib.hid la
  have HB := Lib.hid lb
  have b1 : Blk (w.alloc (.cells (bvs k).toArray 23)) w.heap.size 23 (bvs k) := Blk.new _ _ _
  have b2 : Blk ((w.alloc (.cells (bvs k).toArray 23)).alloc (.cells (bvs j).toArray 23)) (w.heap.size + 1) 23 (bvs j) := by
    have := Blk.new (w.alloc (.cells (bvs k).toArray 23)) 23 (bvs j)
    rwa [show (w.alloc (.cells (bvs k).toArray 23)).heap.size = w.heap.size + 1 by simp] at this
  have b3 : Blk (((w.alloc (.cells (bvs k).toArray 23)).alloc (.cells (bvs j).toArray 23)).alloc (.cells (bvs a).toArray 25)) (w.heap.size + 2) 25 (bvs a) := by
    have := Blk.new ((w.alloc (.cells (bvs k).toArray 23)).alloc (.cells (bvs j).toArray 23)) 25 (bvs a)
    rwa [show ((w.alloc (.cells (bvs k).toArray 23)).alloc (.cells (bvs j).toArray 23)).heap.size = w.heap.size + 2 by simp] at this
  have b4 : Blk ((((w.alloc (.cells (bvs k).toArray 23)).alloc (.cells (bvs j).toArray 23)).alloc (.cells (bvs a).toArray 25)).alloc (.cells (bvs b).toArray 25)) (w.heap.size + 3) 25 (bvs b) := by
    have := Blk.new (((w.alloc (.cells (bvs k).toArray 23)).alloc (.cells (bvs j).toArray 23)).alloc (.cells (bvs a).toArray 25)) 25 (bvs b)
    rwa [show (((w.alloc (.cells (bvs k).toArray 23)).alloc (.cells (bvs j).toArray 23)).alloc (.cells (bvs a).toArray 25)).heap.size = w.heap.size + 3 by simp] at this
  have hall := And.intro (((b1.alloc (.cells (bvs j).toArray 23)).alloc (.cells (bvs a).toArray 25)).alloc (.cells (bvs b).toArray 25)) (And.intro ((b2.alloc (.cells (bvs a).toArray 25)).alloc (.cells (bvs b).toArray 25)) (And.intro (b3.alloc (.cells (bvs b).toArray 25)) (And.intro b4
    (((((Below.refl w.heap.size w).alloc (Nat.le_refl _) (.cells (bvs k).toArray 23)).alloc (by simp) (.cells (bvs j).toArray 23)).alloc (by simp; omega) (.cells (bvs a).toArray 25)).alloc (by simp; omega) (.cells (bvs b).toArray 25)))))
  clear b1 b2 b3 b4
  have DE := fun u => Lib.hid (empty_any u)
  have DV := fun (u : World) (h : Tx u A n c l) => Lib.hid (value_any A n c l u h.rd h.len h.cap h.max (by omega))
  have DL := fun u => Lib.hid (leaf_any k a u lk la)
  have DI := fun u => Lib.hid (inner_any a b u la lb)
  have CE : ∀ u : World, Hid (Calls Try.prog 26 #[] u fun e w' => ∃ A c, e = .returned (.slice A 1 c) ∧ Tx w' A 1 c [0] ∧ Below u.heap.size u w') := fun u => Lib.hid ((empty_text u).mono (by
    rintro e w' ⟨v, rfl, ho, hw⟩; obtain ⟨A, c, rfl, ht⟩ := own_tx ho (n := 1) rfl; exact ⟨A, c, rfl, ht, hw⟩))
  have CV : ∀ u : World, Tx u A n c l → Hid (Calls Try.prog 27 #[.slice A n c] u fun e w' => ∃ A c, e = .returned (.slice A (n + 1) c) ∧ Tx w' A (n + 1) c (3 :: l) ∧ Below u.heap.size u w') := fun u h => Lib.hid ((value_text _ l u ⟨A, c, by rw [hl], by rw [hl]; exact hcap, h.rd⟩ (by omega)).mono (by
    rintro e w' ⟨v, rfl, ho, hw⟩; obtain ⟨A, c, rfl, ht⟩ := own_tx ho (n := n + 1) (by simp [hl]); exact ⟨A, c, rfl, ht, hw⟩))
  have CV2 : ∀ u : World, Tx u B m d l2 → Hid (Calls Try.prog 27 #[.slice B m d] u fun e w' => ∃ A c, e = .returned (.slice A (m + 1) c) ∧ Tx w' A (m + 1) c (3 :: l2) ∧ Below u.heap.size u w') := fun u h => Lib.hid ((value_text _ l2 u ⟨B, d, by rw [hl2], by rw [hl2]; exact hcap2, h.rd⟩ (by omega)).mono (by
    rintro e w' ⟨v, rfl, ho, hw⟩; obtain ⟨A, c, rfl, ht⟩ := own_tx ho (n := m + 1) (by simp [hl2]); exact ⟨A, c, rfl, ht, hw⟩))
  have CLg : ∀ (x y : List UInt8) (u : World), x.length = 32 → y.length = 32 → Hid (Calls Try.prog 28 #[.agg (bvs x).toArray, .agg (bvs y).toArray] u fun e w' => ∃ A c, e = .returned (.slice A 65 c) ∧ Tx w' A 65 c (1 :: (x ++ y)) ∧ Below u.heap.size u w') := fun x y u hx hy => Lib.hid ((leaf_text x y u hx hy).mono (by
    rintro e w' ⟨v, rfl, ho, hw⟩; obtain ⟨A, c, rfl, ht⟩ := own_tx ho (n := 65) (by simp [hx, hy]); exact ⟨A, c, rfl, ht, hw⟩))
  have CIg : ∀ (x y : List UInt8) (u : World), x.length = 32 → y.length = 32 → Hid (Calls Try.prog 29 #[.agg (bvs x).toArray, .agg (bvs y).toArray] u fun e w' => ∃ A c, e = .returned (.slice A 65 c) ∧ Tx w' A 65 c (2 :: (x ++ y)) ∧ Below u.heap.size u w') := fun x y u hx hy => Lib.hid ((inner_text x y u hx hy).mono (by
    rintro e w' ⟨v, rfl, ho, hw⟩; obtain ⟨A, c, rfl, ht⟩ := own_tx ho (n := 65) (by simp [hx, hy]); exact ⟨A, c, rfl, ht, hw⟩))
  have CL := fun u => CLg k a u lk la
  have CL2 := fun u => CLg j b u lj lb
  have CI := fun u => CIg a b u la lb
  have CI2 := fun u => CIg b a u lb la
  have SE := fun (A1 : Option Addr) (c1 : Nat) (u : World) (h : Tx u A1 1 c1 [0]) => Lib.hid (sum_tx A1 1 c1 [0] u h (by omega))
  have SV := fun (A1 : Option Addr) (c1 : Nat) (u : World) (h : Tx u A1 (n + 1) c1 (3 :: l)) => Lib.hid (sum_tx A1 (n + 1) c1 (3 :: l) u h (by omega))
  have SL := fun (A1 : Option Addr) (c1 : Nat) (u : World) (h : Tx u A1 65 c1 (1 :: (k ++ a))) => Lib.hid (sum_tx A1 65 c1 (1 :: (k ++ a)) u h (by omega))
  have SI := fun (A1 : Option Addr) (c1 : Nat) (u : World) (h : Tx u A1 65 c1 (2 :: (a ++ b))) => Lib.hid (sum_tx A1 65 c1 (2 :: (a ++ b)) u h (by omega))
  have HDE : Hid ((shaL [0]).length = 32) := Lib.hid (shaL_length _)
  have HDV : Hid ((shaL (3 :: l)).length = 32) := Lib.hid (shaL_length _)
  have HDL : Hid ((shaL (1 :: (k ++ a))).length = 32) := Lib.hid (shaL_length _)
  have HDI : Hid ((shaL (2 :: (a ++ b))).length = 32) := Lib.hid (shaL_length _)
  have HNE := Lib.hid shaE_ne
  clear CLg CIg hr hr2 hl hl2
  generalize shaL [0] = dE at *
  generalize shaL (3 :: l) = dV at *
  generalize shaL (1 :: (k ++ a)) = dL at *
  generalize shaL (2 :: (a ++ b)) = dI at *
  unfold arr8 at *
  go_enter Try.func18, Try.ntmps18
  go_upto_region 1 with fail
  generalize hW : World.alloc (World.alloc (World.alloc (World.alloc w _) _) _) _ = w0
  have h3 : Blk w0 w.heap.size 23 (bvs k) ∧ Blk w0 (w.heap.size + 1) 23 (bvs j) ∧ Blk w0 (w.heap.size + 2) 25 (bvs a) ∧ Blk w0 (w.heap.size + 3) 25 (bvs b) ∧ Below w.heap.size w w0 := by rw [← hW]; exact hall
  clear hall hW
  obtain ⟨c1, c2, c3, c4, c0⟩ := h3
  have TX := tx0.below c0
  have TY := ty0.below c0
  clear tx0 ty0
  have hB0 : Below w0.heap.size w0 w0 := Below.refl _ _
  refine rg_begin (Below w0.heap.size w0) [] [0, 1, 2, 6, 8, 9, 15, 18, 19, 25, 28, 29, 33] [0, 1, 2, 3, 4, 5, 7, 6, 8, 9, 10, 11, 12, 13, 14, 16, 17, 15, 18, 19, 20, 21, 22, 23, 24, 26, 27, 25, 28, 29, 30, 31, 32, 34, 33, 35, 36] 0 mixed (by kernel_rfl) (fun _ _ _ _ e hh => ⟨e.symm.trans hh.1, hh.2⟩) ?_
  simp only [pick, List.map_cons, List.map_nil, List.getD_cons_zero, List.getD_cons_succ]
  have hS : (Below w0.heap.size w0) _ := (Below.refl _ _).drew
  refine rg_one rfl rfl ?_; intro K hK; go_simp
  with_reducible refine (DE _).out.mono ?_
  rintro e w0_1 ⟨rfl, hw0_1⟩
  have hS0_1 : Below w0.heap.size w0 w0_1 := Below.trans hS (hw0_1.mono (Below.size hS))
  refine hK _ _ (fun _ => hS0_1) ?_; clear hK
  refine rg_one rfl rfl ?_; intro K hK; go_simp
  with_reducible refine (CE _).out.mono ?_
  rintro e w0_2 ⟨A0_2, c0_2, rfl, tx0_2, hw0_2⟩
  have hS0_2 : Below w0.heap.size w0 w0_2 := Below.trans hS0_1 (hw0_2.mono (Below.size hS0_1))
  refine hK _ _ (fun _ => hS0_2) ?_; clear hK
  refine rg_one rfl rfl ?_; intro K hK; go_simp
  with_reducible refine (SE _ _ _ tx0_2).out.mono ?_
  rintro e w0_3 ⟨rfl, hw0_3⟩
  have hS0_3 : Below w0.heap.size w0 w0_3 := Below.trans hS0_2 (hw0_3.mono (Below.size hS0_2))
  refine hK _ _ (fun _ => hS0_3) ?_; clear hK
  refine rg_take rfl rfl hS0_3 (fun W hW => exec_neq_same ab25 _ _ rfl dE rfl rfl HDE.out) ?_
  simp only [Act.put, List.setIfInBounds_toArray, List.set_cons_zero, List.set_cons_succ]
  refine rg_take (v := ?v1_4) rfl rfl hS0_3 ?y1_4 ?_
  case y1_4 => intro W hW; (try subst hW); go_simp; try with_reducible rfl
  simp only [Act.put, List.setIfInBounds_toArray, List.set_cons_zero, List.set_cons_succ]
  refine rg_take (v := ?v1_5) rfl rfl hS0_3 ?y1_5 ?_
  case y1_5 => intro W hW; (try subst hW); go_simp; try with_reducible rfl
  simp only [Act.put, List.setIfInBounds_toArray, List.set_cons_zero, List.set_cons_succ]
  refine rg_take (v := ?v1_7) rfl rfl hS0_3 ?y1_7 ?_
  case y1_7 => intro W hW; (try subst hW); go_simp; try with_reducible rfl
  simp only [Act.put, List.setIfInBounds_toArray, List.set_cons_zero, List.set_cons_succ]
  refine rg_one rfl rfl ?_; intro K hK; go_simp
  with_reducible refine (DV _ (TX.below hS0_3)).out.mono ?_
  rintro e w0_4 ⟨rfl, hw0_4⟩
  have hS0_4 : Below w0.heap.size w0 w0_4 := Below.trans hS0_3 (hw0_4.mono (Below.size hS0_3))
  refine hK _ _ (fun _ => hS0_4) ?_; clear hK
  refine rg_one rfl rfl ?_; intro K hK; go_simp
  with_reducible refine (CV _ (TX.below hS0_4)).out.mono ?_
  rintro e w0_5 ⟨A0_5, c0_5, rfl, tx0_5, hw0_5⟩
  have hS0_5 : Below w0.heap.size w0 w0_5 := Below.trans hS0_4 (hw0_5.mono (Below.size hS0_4))
  refine hK _ _ (fun _ => hS0_5) ?_; clear hK
  refine rg_one rfl rfl ?_; intro K hK; go_simp
  with_reducible refine (SV _ _ _ tx0_5).out.mono ?_
  rintro e w0_6 ⟨rfl, hw0_6⟩
  have hS0_6 : Below w0.heap.size w0 w0_6 := Below.trans hS0_5 (hw0_6.mono (Below.size hS0_5))
  refine hK _ _ (fun _ => hS0_6) ?_; clear hK
  refine rg_take rfl rfl hS0_6 (fun W hW => exec_neq_same ab25 _ _ rfl dV rfl rfl HDV.out) ?_
  simp only [Act.put, List.setIfInBounds_toArray, List.set_cons_zero, List.set_cons_succ]
  refine rg_take (v := ?v1_11) rfl rfl hS0_6 ?y1_11 ?_
  case y1_11 => intro W hW; (try subst hW); go_simp; try with_reducible rfl
  simp only [Act.put, List.setIfInBounds_toArray, List.set_cons_zero, List.set_cons_succ]
  refine rg_take (v := ?v1_12) rfl rfl hS0_6 ?y1_12 ?_
  case y1_12 => intro W hW; (try subst hW); go_simp; try with_reducible rfl
  simp only [Act.put, List.setIfInBounds_toArray, List.set_cons_zero, List.set_cons_succ]
  refine rg_take rfl rfl hS0_6 (fun W hW => exec_load_agg at23' (.tmp 6) rfl w.heap.size 23 (bvs k) rfl (c1.below (Below.trans hB0 (Below.mono hW hB0.size)) c1.lt) (by rw [bvs_length]; exact HK.out)) ?_
  simp only [Act.put, List.setIfInBounds_toArray, List.set_cons_zero, List.set_cons_succ]
  refine rg_take rfl rfl hS0_6 (fun W hW => exec_load_agg at25w (.tmp 10) rfl (w.heap.size + 2) 25 (bvs a) rfl (c3.below (Below.trans hB0 (Below.mono hW hB0.size)) c3.lt) (by rw [bvs_length]; exact HA.out)) ?_
  simp only [Act.put, List.setIfInBounds_toArray, List.set_cons_zero, List.set_cons_succ]
  refine rg_take rfl rfl hS0_6 (fun W hW => exec_load_agg at23' (.tmp 6) rfl w.heap.size 23 (bvs k) rfl (c1.below (Below.trans hB0 (Below.mono hW hB0.size)) c1.lt) (by rw [bvs_length]; exact HK.out)) ?_
  simp only [Act.put, List.setIfInBounds_toArray, List.set_cons_zero, List.set_cons_succ]
  refine rg_take rfl rfl hS0_6 (fun W hW => exec_load_agg at25w (.tmp 10) rfl (w.heap.size + 2) 25 (bvs a) rfl (c3.below (Below.trans hB0 (Below.mono hW hB0.size)) c3.lt) (by rw [bvs_length]; exact HA.out)) ?_
  simp only [Act.put, List.setIfInBounds_toArray, List.set_cons_zero, List.set_cons_succ]
  refine rg_one rfl rfl ?_; intro K hK; go_simp
  with_reducible refine (DL _).out.mono ?_
  rintro e w0_7 ⟨rfl, hw0_7⟩
  have hS0_7 : Below w0.heap.size w0 w0_7 := Below.trans hS0_6 (hw0_7.mono (Below.size hS0_6))
  refine hK _ _ (fun _ => hS0_7) ?_; clear hK
  refine rg_one rfl rfl ?_; intro K hK; go_simp
  with_reducible refine (CL _).out.mono ?_
  rintro e w0_8 ⟨A0_8, c0_8, rfl, tx0_8, hw0_8⟩
  have hS0_8 : Below w0.heap.size w0 w0_8 := Below.trans hS0_7 (hw0_8.mono (Below.size hS0_7))
  refine hK _ _ (fun _ => hS0_8) ?_; clear hK
  refine rg_one rfl rfl ?_; intro K hK; go_simp
  with_reducible refine (SL _ _ _ tx0_8).out.mono ?_
  rintro e w0_9 ⟨rfl, hw0_9⟩
  have hS0_9 : Below w0.heap.size w0 w0_9 := Below.trans hS0_8 (hw0_9.mono (Below.size hS0_8))
  refine hK _ _ (fun _ => hS0_9) ?_; clear hK
  refine rg_take rfl rfl hS0_9 (fun W hW => exec_neq_same ab25 _ _ rfl dL rfl rfl HDL.out) ?_
  simp only [Act.put, List.setIfInBounds_toArray, List.set_cons_zero, List.set_cons_succ]
  refine rg_take (v := ?v1_21) rfl rfl hS0_9 ?y1_21 ?_
  case y1_21 => intro W hW; (try subst hW); go_simp; try with_reducible rfl
  simp only [Act.put, List.setIfInBounds_toArray, List.set_cons_zero, List.set_cons_succ]
  refine rg_take (v := ?v1_22) rfl rfl hS0_9 ?y1_22 ?_
  case y1_22 => intro W hW; (try subst hW); go_simp; try with_reducible rfl
  simp only [Act.put, List.setIfInBounds_toArray, List.set_cons_zero, List.set_cons_succ]
  refine rg_take rfl rfl hS0_9 (fun W hW => exec_load_agg at25w (.tmp 10) rfl (w.heap.size + 2) 25 (bvs a) rfl (c3.below (Below.trans hB0 (Below.mono hW hB0.size)) c3.lt) (by rw [bvs_length]; exact HA.out)) ?_
  simp only [Act.put, List.setIfInBounds_toArray, List.set_cons_zero, List.set_cons_succ]
  refine rg_take rfl rfl hS0_9 (fun W hW => exec_load_agg at25w (.tmp 11) rfl (w.heap.size + 3) 25 (bvs b) rfl (c4.below (Below.trans hB0 (Below.mono hW hB0.size)) c4.lt) (by rw [bvs_length]; exact HB.out)) ?_
  simp only [Act.put, List.setIfInBounds_toArray, List.set_cons_zero, List.set_cons_succ]
  refine rg_take rfl rfl hS0_9 (fun W hW => exec_load_agg at25w (.tmp 10) rfl (w.heap.size + 2) 25 (bvs a) rfl (c3.below (Below.trans hB0 (Below.mono hW hB0.size)) c3.lt) (by rw [bvs_length]; exact HA.out)) ?_
  simp only [Act.put, List.setIfInBounds_toArray, List.set_cons_zero, List.set_cons_succ]
  refine rg_take rfl rfl hS0_9 (fun W hW => exec_load_agg at25w (.tmp 11) rfl (w.heap.size + 3) 25 (bvs b) rfl (c4.below (Below.trans hB0 (Below.mono hW hB0.size)) c4.lt) (by rw [bvs_length]; exact HB.out)) ?_
  simp only [Act.put, List.setIfInBounds_toArray, List.set_cons_zero, List.set_cons_succ]
  refine rg_one rfl rfl ?_; intro K hK; go_simp
  with_reducible refine (DI _).out.mono ?_
  rintro e w0_10 ⟨rfl, hw0_10⟩
  have hS0_10 : Below w0.heap.size w0 w0_10 := Below.trans hS0_9 (hw0_10.mono (Below.size hS0_9))
  refine hK _ _ (fun _ => hS0_10) ?_; clear hK
  refine rg_one rfl rfl ?_; intro K hK; go_simp
  with_reducible refine (CI _).out.mono ?_
  rintro e w0_11 ⟨A0_11, c0_11, rfl, tx0_11, hw0_11⟩
  have hS0_11 : Below w0.heap.size w0 w0_11 := Below.trans hS0_10 (hw0_11.mono (Below.size hS0_10))
  refine hK _ _ (fun _ => hS0_11) ?_; clear hK
  refine rg_one rfl rfl ?_; intro K hK; go_simp
  with_reducible refine (SI _ _ _ tx0_11).out.mono ?_
  rintro e w0_12 ⟨rfl, hw0_12⟩
  have hS0_12 : Below w0.heap.size w0 w0_12 := Below.trans hS0_11 (hw0_12.mono (Below.size hS0_11))
  refine hK _ _ (fun _ => hS0_12) ?_; clear hK
  refine rg_take rfl rfl hS0_12 (fun W hW => exec_neq_same ab25 _ _ rfl dI rfl rfl HDI.out) ?_
  simp only [Act.put, List.setIfInBounds_toArray, List.set_cons_zero, List.set_cons_succ]
  refine rg_take (v := ?v1_31) rfl rfl hS0_12 ?y1_31 ?_
  case y1_31 => intro W hW; (try subst hW); go_simp; try with_reducible rfl
  simp only [Act.put, List.setIfInBounds_toArray, List.set_cons_zero, List.set_cons_succ]
  refine rg_take (v := ?v1_32) rfl rfl hS0_12 ?y1_32 ?_
  case y1_32 => intro W hW; (try subst hW); go_simp; try with_reducible rfl
  simp only [Act.put, List.setIfInBounds_toArray, List.set_cons_zero, List.set_cons_succ]
  refine rg_take rfl rfl hS0_12 (fun W hW => exec_build _ rfl (bvs (zb 32)).toArray (by kernel_rfl)) ?_
  simp only [Act.put, List.setIfInBounds_toArray, List.set_cons_zero, List.set_cons_succ]
  refine rg_one rfl rfl ?_; intro K hK; go_simp
  with_reducible refine (DE _).out.mono ?_
  rintro e w0_13 ⟨rfl, hw0_13⟩
  have hS0_13 : Below w0.heap.size w0 w0_13 := Below.trans hS0_12 (hw0_13.mono (Below.size hS0_12))
  refine hK _ _ (fun _ => hS0_13) ?_; clear hK
  refine rg_take rfl rfl hS0_13 (fun W hW => exec_eql_to (b := false) ab25 _ _ rfl dE (zb 32) rfl rfl HDE.out (zb_length 32) HNE.out) ?_
  simp only [Act.put, List.setIfInBounds_toArray, List.set_cons_zero, List.set_cons_succ]
  refine rg_take (v := ?v1_36) rfl rfl hS0_13 ?y1_36 ?_
  case y1_36 => intro W hW; (try subst hW); go_simp; try with_reducible rfl
  simp only [Act.put, List.setIfInBounds_toArray, List.set_cons_zero, List.set_cons_succ]
  refine rg_done (by kernel_rfl) ?_
  have hB1 : Below w0.heap.size w0 w0_13 := hS0_13
  clear hS0_1 hS0_2 hS0_3 hS0_4 hS0_5 hS0_6 hS0_7 hS0_8 hS0_9 hS0_10 hS0_11 hS0_12 hS0_13 hw0_1 hw0_2 hw0_3 hw0_4 hw0_5 hw0_6 hw0_7 hw0_8 hw0_9 hw0_10 hw0_11 hw0_12 hw0_13 tx0_2 tx0_5 tx0_8 tx0_11
  obtain ⟨w1, hw1d⟩ : ∃ w1, w1 = w0_13 := ⟨_, rfl⟩
  rw [← hw1d] at hB1 ⊢
  clear hw1d

  go_upto_region 3 with fail
  refine rg_begin (Below w1.heap.size w1) [] [0, 3, 6, 8, 9] [1, 2, 4, 5, 7, 0, 3, 6, 8, 9, 10] 0 mixed (by kernel_rfl) (fun _ _ _ _ e hh => ⟨e.symm.trans hh.1, hh.2⟩) ?_
  simp only [pick, List.map_cons, List.map_nil, List.getD_cons_zero, List.getD_cons_succ]
  have hS : (Below w1.heap.size w1) _ := (Below.refl _ _).drew
  refine rg_take rfl rfl hS (fun W hW => exec_load_agg at23' (.tmp 6) rfl w.heap.size 23 (bvs k) rfl (c1.below (Below.trans hB1 (Below.mono hW hB1.size)) c1.lt) (by rw [bvs_length]; exact HK.out)) ?_
  simp only [Act.put, List.setIfInBounds_toArray, List.set_cons_zero, List.set_cons_succ]
  refine rg_take rfl rfl hS (fun W hW => exec_load_agg at25w (.tmp 10) rfl (w.heap.size + 2) 25 (bvs a) rfl (c3.below (Below.trans hB1 (Below.mono hW hB1.size)) c3.lt) (by rw [bvs_length]; exact HA.out)) ?_
  simp only [Act.put, List.setIfInBounds_toArray, List.set_cons_zero, List.set_cons_succ]
  refine rg_take rfl rfl hS (fun W hW => exec_load_agg at25w (.tmp 10) rfl (w.heap.size + 2) 25 (bvs a) rfl (c3.below (Below.trans hB1 (Below.mono hW hB1.size)) c3.lt) (by rw [bvs_length]; exact HA.out)) ?_
  simp only [Act.put, List.setIfInBounds_toArray, List.set_cons_zero, List.set_cons_succ]
  refine rg_take rfl rfl hS (fun W hW => exec_load_agg at25w (.tmp 11) rfl (w.heap.size + 3) 25 (bvs b) rfl (c4.below (Below.trans hB1 (Below.mono hW hB1.size)) c4.lt) (by rw [bvs_length]; exact HB.out)) ?_
  simp only [Act.put, List.setIfInBounds_toArray, List.set_cons_zero, List.set_cons_succ]
  refine rg_take (v := ?v2_7) rfl rfl hS ?y2_7 ?_
  case y2_7 => intro W hW; (try subst hW); go_simp; try with_reducible rfl
  simp only [Act.put, List.setIfInBounds_toArray, List.set_cons_zero, List.set_cons_succ]
  refine rg_one rfl rfl ?_; intro K hK; go_simp
  with_reducible refine (CE _).out.mono ?_
  rintro e w1_1 ⟨A1_1, c1_1, rfl, tx1_1, hw1_1⟩
  have hS1_1 : Below w1.heap.size w1 w1_1 := Below.trans hS (hw1_1.mono (Below.size hS))
  refine hK _ _ (fun _ => hS1_1) ?_; clear hK
  refine rg_one rfl rfl ?_; intro K hK; go_simp
  with_reducible refine (CL _).out.mono ?_
  rintro e w1_2 ⟨A1_2, c1_2, rfl, tx1_2, hw1_2⟩
  have hS1_2 : Below w1.heap.size w1 w1_2 := Below.trans hS1_1 (hw1_2.mono (Below.size hS1_1))
  refine hK _ _ (fun _ => hS1_2) ?_; clear hK
  refine rg_one rfl rfl ?_; intro K hK; go_simp
  with_reducible refine (CI _).out.mono ?_
  rintro e w1_3 ⟨A1_3, c1_3, rfl, tx1_3, hw1_3⟩
  have hS1_3 : Below w1.heap.size w1 w1_3 := Below.trans hS1_2 (hw1_3.mono (Below.size hS1_2))
  refine hK _ _ (fun _ => hS1_3) ?_; clear hK
  refine rg_one rfl rfl ?_; intro K hK; go_simp
  with_reducible refine (CV _ (TX.below (Below.trans hB1 (Below.mono hS1_3 hB1.size)))).out.mono ?_
  rintro e w1_4 ⟨A1_4, c1_4, rfl, tx1_4, hw1_4⟩
  have hS1_4 : Below w1.heap.size w1 w1_4 := Below.trans hS1_3 (hw1_4.mono (Below.size hS1_3))
  refine hK _ _ (fun _ => hS1_4) ?_; clear hK
  refine rg_one rfl rfl ?_; intro K hK; go_simp
  have hS5 : Below w1.heap.size w1 (w1_4.alloc (.cells #[.slice A1_1 1 c1_1, .slice A1_2 65 c1_2, .slice A1_3 65 c1_3, .slice A1_4 (n + 1) c1_4] 24)) := Below.alloc hS1_4 (Below.size hS1_4) _
  refine hK _ _ (fun _ => hS5) ?_; clear hK
  refine rg_take (v := ?v2_10) rfl rfl hS5 ?y2_10 ?_
  case y2_10 => intro W hW; (try subst hW); go_simp; try with_reducible rfl
  simp only [Act.put, List.setIfInBounds_toArray, List.set_cons_zero, List.set_cons_succ]
  refine rg_done (by kernel_rfl) ?_
  have hQ : Blk (w1_4.alloc (.cells #[.slice A1_1 1 c1_1, .slice A1_2 65 c1_2, .slice A1_3 65 c1_3, .slice A1_4 (n + 1) c1_4] 24)) w1_4.heap.size 24 [.slice A1_1 1 c1_1, .slice A1_2 65 c1_2, .slice A1_3 65 c1_3, .slice A1_4 (n + 1) c1_4] := Blk.new _ _ _
  have hT1 : Tx (w1_4.alloc (.cells #[.slice A1_1 1 c1_1, .slice A1_2 65 c1_2, .slice A1_3 65 c1_3, .slice A1_4 (n + 1) c1_4] 24)) A1_1 1 c1_1 [0] := (((tx1_1.below hw1_2).below hw1_3).below hw1_4).alloc _
  have hT2 : Tx (w1_4.alloc (.cells #[.slice A1_1 1 c1_1, .slice A1_2 65 c1_2, .slice A1_3 65 c1_3, .slice A1_4 (n + 1) c1_4] 24)) A1_2 65 c1_2 (1 :: (k ++ a)) := ((tx1_2.below hw1_3).below hw1_4).alloc _
  have hT3 : Tx (w1_4.alloc (.cells #[.slice A1_1 1 c1_1, .slice A1_2 65 c1_2, .slice A1_3 65 c1_3, .slice A1_4 (n + 1) c1_4] 24)) A1_3 65 c1_3 (2 :: (a ++ b)) := (tx1_3.below hw1_4).alloc _
  have hT4 : Tx (w1_4.alloc (.cells #[.slice A1_1 1 c1_1, .slice A1_2 65 c1_2, .slice A1_3 65 c1_3, .slice A1_4 (n + 1) c1_4] 24)) A1_4 (n + 1) c1_4 (3 :: l) := tx1_4.alloc _
  have hB2 : Below w0.heap.size w0 (w1_4.alloc (.cells #[.slice A1_1 1 c1_1, .slice A1_2 65 c1_2, .slice A1_3 65 c1_3, .slice A1_4 (n + 1) c1_4] 24)) := hB1.trans (Below.mono hS5 hB1.size)
  clear hS5 hS1_1 hS1_2 hS1_3 hS1_4 hw1_1 hw1_2 hw1_3 hw1_4 tx1_1 tx1_2 tx1_3 tx1_4 hB1
  generalize hwq : World.alloc w1_4 _ = w2 at *
  generalize w1_4.heap.size = G at *

  have HROW : Hid (∀ i, i < 4 → ∃ A L c T, [Value.slice A1_1 1 c1_1, .slice A1_2 65 c1_2, .slice A1_3 65 c1_3, .slice A1_4 (n + 1) c1_4][i]? = some (.slice A L c) ∧ Tx w2 A L c (UInt8.ofNat i :: T)) := Lib.hid (by
    intro i hi
    match i, hi with
    | 0, _ => exact ⟨_, _, _, _, rfl, hT1⟩
    | 1, _ => exact ⟨_, _, _, _, rfl, hT2⟩
    | 2, _ => exact ⟨_, _, _, _, rfl, hT3⟩
    | 3, _ => exact ⟨_, _, _, _, rfl, hT4⟩)
  clear hT1 hT2 hT3 hT4
  generalize [Value.slice A1_1 1 c1_1, .slice A1_2 65 c1_2, .slice A1_3 65 c1_3, .slice A1_4 (n + 1) c1_4] = RW at *
  have HCELL : ∀ (i : Nat) (v : Value), RW[i]? = some v → ∀ W, Below w2.heap.size w2 W → W.cell? ((⟨G, 0, none⟩ : Addr).add i) = some v := by
    intro i v hv W hW
    rw [add_none, Nat.zero_add, (hQ.below hW hQ.lt).cell]
    exact hv
  clear hQ
  go_wp2_with fail
  go_loopw [14] (fun i wr => ∃ x : Nat, x ≤ 4 ∧ i = .int .i64 (x : Int) ∧ Below w2.heap.size w2 wr) (fun i _ => 4 - (intOf i).toNat)
  case atStart => exact ⟨0, by omega, by go_num, Below.refl _ _⟩
  case round =>
    obtain ⟨x, hx, rfl, hx2⟩ := hrel
    by_cases hx4 : x < 4
    · have hxz : (x : Int) < 4 := by omega
      go_wp2_with fail
      go_loopw [15] (fun i wr => ∃ q : Nat, q ≤ x ∧ i = .int .i64 (q : Int) ∧ Below w2.heap.size w2 wr) (fun i _ => x - (intOf i).toNat)
      case atStart => exact ⟨0, by omega, by go_num, hx2⟩
      case round =>
        clear hx2
        obtain ⟨q, hq, rfl, hx2⟩ := hrel
        by_cases hqx : q < x
        · have hqz : (q : Int) < (x : Int) := by omega
          obtain ⟨P1, L1, d1, T1, e1, t1⟩ := HROW.out x hx4
          obtain ⟨P2, L2, d2, T2, e2, t2⟩ := HROW.out q (by omega)
          have F1 := HCELL x _ e1
          have F2 := HCELL q _ e2
          have SB := fun (u : World) (h : Below w2.heap.size w2 u) => Lib.hid (same_tx P1 L1 d1 _ P2 L2 d2 _ u (t1.below h) (t2.below h) false (tag_ne x q hx4 hqx T1 T2))
          clear t1 t2 e1 e2
          go_upto_region 10 with fail
          refine rg_begin (Below w2.heap.size w2) [] [8] [0, 1, 2, 3, 4, 5, 6, 7, 8] 0 mixed (by kernel_rfl) (fun _ _ _ _ e hh => ⟨e.symm.trans hh.1, hh.2⟩) ?_
          simp only [pick, List.map_cons, List.map_nil, List.getD_cons_zero, List.getD_cons_succ]
          have hS : (Below w2.heap.size w2) _ := hx2.drew
          refine rg_take (v := ?v3_0) rfl rfl hS ?y3_0 ?_
          case y3_0 => intro W hW; (try subst hW); go_simp; try with_reducible rfl
          simp only [Act.put, List.setIfInBounds_toArray, List.set_cons_zero, List.set_cons_succ]
          refine rg_take (v := ?v3_1) rfl rfl hS ?y3_1 ?_
          case y3_1 => intro W hW; (try subst hW); go_simp; try with_reducible rfl
          simp only [Act.put, List.setIfInBounds_toArray, List.set_cons_zero, List.set_cons_succ]
          refine rg_take rfl rfl hS (fun W hW => exec_sia Try.underlying30 sz24 _ _ rfl ⟨G, 0, none⟩ 4 4 x _ rfl rfl hx4) ?_
          simp only [Act.put, List.setIfInBounds_toArray, List.set_cons_zero, List.set_cons_succ]
          refine rg_take rfl rfl hS (fun W hW => exec_load24 _ rfl _ _ rfl (F1 W hW)) ?_
          simp only [Act.put, List.setIfInBounds_toArray, List.set_cons_zero, List.set_cons_succ]
          refine rg_take (v := ?v3_4) rfl rfl hS ?y3_4 ?_
          case y3_4 => intro W hW; (try subst hW); go_simp; try with_reducible rfl
          simp only [Act.put, List.setIfInBounds_toArray, List.set_cons_zero, List.set_cons_succ]
          refine rg_take (v := ?v3_5) rfl rfl hS ?y3_5 ?_
          case y3_5 => intro W hW; (try subst hW); go_simp; try with_reducible rfl
          simp only [Act.put, List.setIfInBounds_toArray, List.set_cons_zero, List.set_cons_succ]
          refine rg_take rfl rfl hS (fun W hW => exec_sia Try.underlying30 sz24 _ _ rfl ⟨G, 0, none⟩ 4 4 q _ rfl rfl (by omega)) ?_
          simp only [Act.put, List.setIfInBounds_toArray, List.set_cons_zero, List.set_cons_succ]
          refine rg_take rfl rfl hS (fun W hW => exec_load24 _ rfl _ _ rfl (F2 W hW)) ?_
          simp only [Act.put, List.setIfInBounds_toArray, List.set_cons_zero, List.set_cons_succ]
          refine rg_one rfl rfl ?_; intro K hK; go_simp
          with_reducible refine (SB _ hS).out.mono ?_
          rintro e _ ⟨rfl, rfl⟩
          refine hK _ _ (fun _ => hS) ?_; clear hK
          refine rg_done (by kernel_rfl) ?_
          go_wp2_with fail
          go_roundw
          case rel => exact ⟨q + 1, by omega, by go_num, hS⟩
          case measure => simp only [intOf]; omega
        · obtain rfl : q = x := by omega
          go_wp2_with fail
          go_roundw
          case rel => exact ⟨q + 1, by omega, by go_num, hx2⟩
          case measure => simp only [intOf]; omega
    · obtain rfl : x = 4 := by omega
      clear HCELL HROW hx hx4
      have hB3 : Below w0.heap.size w0 wr := hB2.trans (hx2.mono hB2.size)
      clear hB2 hx2 CE DE DV DL DI SE SV SL SI HDE HDV HDL HDI HNE
      go_upto_region 12 with fail
      have E1 := Lib.hid (two_eq 1 k a j b (lk.trans lj.symm))
      have E2 := Lib.hid (swap_eq a b (la.trans lb.symm))
      have E3 := Lib.hid (cons_eq8 3 l l2)
      obtain ⟨E, hE⟩ : ∃ E, (a == b) = E := ⟨_, rfl⟩
      obtain ⟨F, hF⟩ : ∃ F, (l == l2) = F := ⟨_, rfl⟩
      have HE := Lib.hid hE
      have HF := Lib.hid hF
      rw [hE] at E1 E2
      rw [hF] at E3
      clear hE hF lk lj la lb
      by_cases hkj : k = j
      · have E0 : Hid ((k == j) = true) := Lib.hid (by simp [hkj])
        rw [E0.out, Bool.true_and] at E1
        clear hkj
        refine rg_begin (Below wr.heap.size wr) [] [2, 5, 6] [0, 1, 3, 4, 7, 8, 9, 2, 5, 6, 10, 11, 12, 13, 14, 15, 16] 0 mixed (by kernel_rfl) (fun _ _ _ _ e hh => ⟨e.symm.trans hh.1, hh.2⟩) ?_
        simp only [pick, List.map_cons, List.map_nil, List.getD_cons_zero, List.getD_cons_succ]
        have hS : (Below wr.heap.size wr) _ := (Below.refl _ _).drew
        refine rg_take rfl rfl hS (fun W hW => exec_load_agg at23' (.tmp 6) rfl w.heap.size 23 (bvs k) rfl (c1.below (Below.trans hB3 (Below.mono hW hB3.size)) c1.lt) (by rw [bvs_length]; exact HK.out)) ?_
        simp only [Act.put, List.setIfInBounds_toArray, List.set_cons_zero, List.set_cons_succ]
        refine rg_take rfl rfl hS (fun W hW => exec_load_agg at25w (.tmp 10) rfl (w.heap.size + 2) 25 (bvs a) rfl (c3.below (Below.trans hB3 (Below.mono hW hB3.size)) c3.lt) (by rw [bvs_length]; exact HA.out)) ?_
        simp only [Act.put, List.setIfInBounds_toArray, List.set_cons_zero, List.set_cons_succ]
        refine rg_take rfl rfl hS (fun W hW => exec_load_agg at23' (.tmp 7) rfl (w.heap.size + 1) 23 (bvs j) rfl (c2.below (Below.trans hB3 (Below.mono hW hB3.size)) c2.lt) (by rw [bvs_length]; exact HJ.out)) ?_
        simp only [Act.put, List.setIfInBounds_toArray, List.set_cons_zero, List.set_cons_succ]
        refine rg_take rfl rfl hS (fun W hW => exec_load_agg at25w (.tmp 11) rfl (w.heap.size + 3) 25 (bvs b) rfl (c4.below (Below.trans hB3 (Below.mono hW hB3.size)) c4.lt) (by rw [bvs_length]; exact HB.out)) ?_
        simp only [Act.put, List.setIfInBounds_toArray, List.set_cons_zero, List.set_cons_succ]
        refine rg_take rfl rfl hS (fun W hW => exec_load_agg at23' (.tmp 6) rfl w.heap.size 23 (bvs k) rfl (c1.below (Below.trans hB3 (Below.mono hW hB3.size)) c1.lt) (by rw [bvs_length]; exact HK.out)) ?_
        simp only [Act.put, List.setIfInBounds_toArray, List.set_cons_zero, List.set_cons_succ]
        refine rg_take rfl rfl hS (fun W hW => exec_load_agg at23' (.tmp 7) rfl (w.heap.size + 1) 23 (bvs j) rfl (c2.below (Below.trans hB3 (Below.mono hW hB3.size)) c2.lt) (by rw [bvs_length]; exact HJ.out)) ?_
        simp only [Act.put, List.setIfInBounds_toArray, List.set_cons_zero, List.set_cons_succ]
        refine rg_take rfl rfl hS (fun W hW => exec_eql_to ab23 _ _ rfl k j rfl rfl HK.out HJ.out E0.out) ?_
        simp only [Act.put, List.setIfInBounds_toArray, List.set_cons_zero, List.set_cons_succ]
        refine rg_one rfl rfl ?_; intro K hK; go_simp
        with_reducible refine (CL _).out.mono ?_
        rintro e wr_1 ⟨Ar_1, cr_1, rfl, txr_1, hwr_1⟩
        have hSr_1 : Below wr.heap.size wr wr_1 := Below.trans hS (hwr_1.mono (Below.size hS))
        refine hK _ _ (fun _ => hSr_1) ?_; clear hK
        refine rg_one rfl rfl ?_; intro K hK; go_simp
        with_reducible refine (CL2 _).out.mono ?_
        rintro e wr_2 ⟨Ar_2, cr_2, rfl, txr_2, hwr_2⟩
        have hSr_2 : Below wr.heap.size wr wr_2 := Below.trans hSr_1 (hwr_2.mono (Below.size hSr_1))
        refine hK _ _ (fun _ => hSr_2) ?_; clear hK
        refine rg_one rfl rfl ?_; intro K hK; go_simp
        with_reducible refine (same_tx _ _ _ _ _ _ _ _ _ (txr_1.below hwr_2) txr_2 E E1.out).mono ?_
        rintro e _ ⟨rfl, rfl⟩
        refine hK _ _ (fun _ => hSr_2) ?_; clear hK
        refine rg_take (v := ?v4_10) rfl rfl hSr_2 ?y4_10 ?_
        case y4_10 => intro W hW; (try subst hW); go_simp; try with_reducible rfl
        simp only [Act.put, List.setIfInBounds_toArray, List.set_cons_zero, List.set_cons_succ]
        refine rg_take rfl rfl hSr_2 (fun W hW => exec_load_agg at25w (.tmp 10) rfl (w.heap.size + 2) 25 (bvs a) rfl (c3.below (Below.trans hB3 (Below.mono hW hB3.size)) c3.lt) (by rw [bvs_length]; exact HA.out)) ?_
        simp only [Act.put, List.setIfInBounds_toArray, List.set_cons_zero, List.set_cons_succ]
        refine rg_take rfl rfl hSr_2 (fun W hW => exec_load_agg at25w (.tmp 11) rfl (w.heap.size + 3) 25 (bvs b) rfl (c4.below (Below.trans hB3 (Below.mono hW hB3.size)) c4.lt) (by rw [bvs_length]; exact HB.out)) ?_
        simp only [Act.put, List.setIfInBounds_toArray, List.set_cons_zero, List.set_cons_succ]
        refine rg_take rfl rfl hSr_2 (fun W hW => exec_eql_to ab25 _ _ rfl a b rfl rfl HA.out HB.out HE.out) ?_
        simp only [Act.put, List.setIfInBounds_toArray, List.set_cons_zero, List.set_cons_succ]
        refine rg_take (v := ?v4_14) rfl rfl hSr_2 ?y4_14 ?_
        case y4_14 => intro W hW; (try subst hW); go_simp; try with_reducible rfl
        simp only [Act.put, List.setIfInBounds_toArray, List.set_cons_zero, List.set_cons_succ]
        refine rg_take (v := ?v4_15) rfl rfl hSr_2 ?y4_15 ?_
        case y4_15 => intro W hW; (try subst hW); go_simp; try with_reducible rfl
        simp only [Act.put, List.setIfInBounds_toArray, List.set_cons_zero, List.set_cons_succ]
        refine rg_take (v := ?v4_16) rfl rfl hSr_2 ?y4_16 ?_
        case y4_16 => intro W hW; (try subst hW); go_simp; try with_reducible rfl
        simp only [Act.put, List.setIfInBounds_toArray, List.set_cons_zero, List.set_cons_succ]
        refine rg_done (by kernel_rfl) ?_
        obtain ⟨w5, hw5d⟩ : ∃ w5, w5 = wr_2 := ⟨_, rfl⟩
        rw [← hw5d] at hSr_2 ⊢
        have hB5 : Below w0.heap.size w0 w5 := hB3.trans (hSr_2.mono hB3.size)
        clear hSr_1 hSr_2 txr_1 txr_2 hwr_1 hwr_2 hw5d hB3
        go_upto_region 13 with fail
        refine rg_begin (Below w5.heap.size w5) [] [2, 5, 6] [0, 1, 3, 4, 7, 8, 9, 2, 5, 6, 10, 11] 0 mixed (by kernel_rfl) (fun _ _ _ _ e hh => ⟨e.symm.trans hh.1, hh.2⟩) ?_
        simp only [pick, List.map_cons, List.map_nil, List.getD_cons_zero, List.getD_cons_succ]
        have hS : (Below w5.heap.size w5) _ := (Below.refl _ _).drew
        refine rg_take rfl rfl hS (fun W hW => exec_load_agg at25w (.tmp 10) rfl (w.heap.size + 2) 25 (bvs a) rfl (c3.below (Below.trans hB5 (Below.mono hW hB5.size)) c3.lt) (by rw [bvs_length]; exact HA.out)) ?_
        simp only [Act.put, List.setIfInBounds_toArray, List.set_cons_zero, List.set_cons_succ]
        refine rg_take rfl rfl hS (fun W hW => exec_load_agg at25w (.tmp 11) rfl (w.heap.size + 3) 25 (bvs b) rfl (c4.below (Below.trans hB5 (Below.mono hW hB5.size)) c4.lt) (by rw [bvs_length]; exact HB.out)) ?_
        simp only [Act.put, List.setIfInBounds_toArray, List.set_cons_zero, List.set_cons_succ]
        refine rg_take rfl rfl hS (fun W hW => exec_load_agg at25w (.tmp 11) rfl (w.heap.size + 3) 25 (bvs b) rfl (c4.below (Below.trans hB5 (Below.mono hW hB5.size)) c4.lt) (by rw [bvs_length]; exact HB.out)) ?_
        simp only [Act.put, List.setIfInBounds_toArray, List.set_cons_zero, List.set_cons_succ]
        refine rg_take rfl rfl hS (fun W hW => exec_load_agg at25w (.tmp 10) rfl (w.heap.size + 2) 25 (bvs a) rfl (c3.below (Below.trans hB5 (Below.mono hW hB5.size)) c3.lt) (by rw [bvs_length]; exact HA.out)) ?_
        simp only [Act.put, List.setIfInBounds_toArray, List.set_cons_zero, List.set_cons_succ]
        refine rg_take rfl rfl hS (fun W hW => exec_load_agg at25w (.tmp 10) rfl (w.heap.size + 2) 25 (bvs a) rfl (c3.below (Below.trans hB5 (Below.mono hW hB5.size)) c3.lt) (by rw [bvs_length]; exact HA.out)) ?_
        simp only [Act.put, List.setIfInBounds_toArray, List.set_cons_zero, List.set_cons_succ]
        refine rg_take rfl rfl hS (fun W hW => exec_load_agg at25w (.tmp 11) rfl (w.heap.size + 3) 25 (bvs b) rfl (c4.below (Below.trans hB5 (Below.mono hW hB5.size)) c4.lt) (by rw [bvs_length]; exact HB.out)) ?_
        simp only [Act.put, List.setIfInBounds_toArray, List.set_cons_zero, List.set_cons_succ]
        refine rg_take rfl rfl hS (fun W hW => exec_eql_to ab25 _ _ rfl a b rfl rfl HA.out HB.out HE.out) ?_
        simp only [Act.put, List.setIfInBounds_toArray, List.set_cons_zero, List.set_cons_succ]
        refine rg_one rfl rfl ?_; intro K hK; go_simp
        with_reducible refine (CI _).out.mono ?_
        rintro e ws_1 ⟨As_1, cs_1, rfl, txs_1, hws_1⟩
        have hSs_1 : Below w5.heap.size w5 ws_1 := Below.trans hS (hws_1.mono (Below.size hS))
        refine hK _ _ (fun _ => hSs_1) ?_; clear hK
        refine rg_one rfl rfl ?_; intro K hK; go_simp
        with_reducible refine (CI2 _).out.mono ?_
        rintro e ws_2 ⟨As_2, cs_2, rfl, txs_2, hws_2⟩
        have hSs_2 : Below w5.heap.size w5 ws_2 := Below.trans hSs_1 (hws_2.mono (Below.size hSs_1))
        refine hK _ _ (fun _ => hSs_2) ?_; clear hK
        refine rg_one rfl rfl ?_; intro K hK; go_simp
        with_reducible refine (same_tx _ _ _ _ _ _ _ _ _ (txs_1.below hws_2) txs_2 E E2.out).mono ?_
        rintro e _ ⟨rfl, rfl⟩
        refine hK _ _ (fun _ => hSs_2) ?_; clear hK
        refine rg_take (v := ?v5_10) rfl rfl hSs_2 ?y5_10 ?_
        case y5_10 => intro W hW; (try subst hW); go_simp; try with_reducible rfl
        simp only [Act.put, List.setIfInBounds_toArray, List.set_cons_zero, List.set_cons_succ]
        refine rg_take (v := ?v5_11) rfl rfl hSs_2 ?y5_11 ?_
        case y5_11 => intro W hW; (try subst hW); go_simp; try with_reducible rfl
        simp only [Act.put, List.setIfInBounds_toArray, List.set_cons_zero, List.set_cons_succ]
        refine rg_done (by kernel_rfl) ?_
        have hB6 : Below w0.heap.size w0 ws_2 := hB5.trans (hSs_2.mono hB5.size)
        have TX6 := TX.below hB6
        have TY6 := TY.below hB6
        go_wp2_with (first
          | (go_at_call 27; with_reducible refine (CV ws_2 TX6).out.mono ?_; rintro e w7 ⟨A7, d7, rfl, t7, hw7⟩)
          | (go_at_call 27; with_reducible refine (CV2 w7 (TY6.below hw7)).out.mono ?_; rintro e w8 ⟨A8, d8, rfl, t8, hw8⟩)
          | (go_at_call 33; with_reducible refine (same_tx _ _ _ _ _ _ _ _ w8 (t7.below hw8) t8 F E3.out).mono ?_; rintro e _ ⟨rfl, rfl⟩)
          | (go_at_call 33; with_reducible refine (same_tx _ _ _ _ _ _ _ _ w8 ((TX6.below hw7).below hw8) ((TY6.below hw7).below hw8) F HF.out).mono ?_; rintro e _ ⟨rfl, rfl⟩))
        go_ret
        have hB8 := bthen (bthen hB6 hw7 hB6.size) hw8 (Nat.le_trans hB6.size hw7.size)
        exact ⟨rfl, c0.trans (hB8.mono c0.size)⟩
      · have E0 : Hid ((k == j) = false) := Lib.hid (by simp [hkj])
        rw [E0.out, Bool.false_and] at E1
        clear hkj
        refine rg_begin (Below wr.heap.size wr) [] [2, 5, 6] [0, 1, 3, 4, 7, 8, 9, 2, 5, 6, 10, 11, 12, 13, 14, 15, 16] 0 mixed (by kernel_rfl) (fun _ _ _ _ e hh => ⟨e.symm.trans hh.1, hh.2⟩) ?_
        simp only [pick, List.map_cons, List.map_nil, List.getD_cons_zero, List.getD_cons_succ]
        have hS : (Below wr.heap.size wr) _ := (Below.refl _ _).drew
        refine rg_take rfl rfl hS (fun W hW => exec_load_agg at23' (.tmp 6) rfl w.heap.size 23 (bvs k) rfl (c1.below (Below.trans hB3 (Below.mono hW hB3.size)) c1.lt) (by rw [bvs_length]; exact HK.out)) ?_
        simp only [Act.put, List.setIfInBounds_toArray, List.set_cons_zero, List.set_cons_succ]
        refine rg_take rfl rfl hS (fun W hW => exec_load_agg at25w (.tmp 10) rfl (w.heap.size + 2) 25 (bvs a) rfl (c3.below (Below.trans hB3 (Below.mono hW hB3.size)) c3.lt) (by rw [bvs_length]; exact HA.out)) ?_
        simp only [Act.put, List.setIfInBounds_toArray, List.set_cons_zero, List.set_cons_succ]
        refine rg_take rfl rfl hS (fun W hW => exec_load_agg at23' (.tmp 7) rfl (w.heap.size + 1) 23 (bvs j) rfl (c2.below (Below.trans hB3 (Below.mono hW hB3.size)) c2.lt) (by rw [bvs_length]; exact HJ.out)) ?_
        simp only [Act.put, List.setIfInBounds_toArray, List.set_cons_zero, List.set_cons_succ]
        refine rg_take rfl rfl hS (fun W hW => exec_load_agg at25w (.tmp 11) rfl (w.heap.size + 3) 25 (bvs b) rfl (c4.below (Below.trans hB3 (Below.mono hW hB3.size)) c4.lt) (by rw [bvs_length]; exact HB.out)) ?_
        simp only [Act.put, List.setIfInBounds_toArray, List.set_cons_zero, List.set_cons_succ]
        refine rg_take rfl rfl hS (fun W hW => exec_load_agg at23' (.tmp 6) rfl w.heap.size 23 (bvs k) rfl (c1.below (Below.trans hB3 (Below.mono hW hB3.size)) c1.lt) (by rw [bvs_length]; exact HK.out)) ?_
        simp only [Act.put, List.setIfInBounds_toArray, List.set_cons_zero, List.set_cons_succ]
        refine rg_take rfl rfl hS (fun W hW => exec_load_agg at23' (.tmp 7) rfl (w.heap.size + 1) 23 (bvs j) rfl (c2.below (Below.trans hB3 (Below.mono hW hB3.size)) c2.lt) (by rw [bvs_length]; exact HJ.out)) ?_
        simp only [Act.put, List.setIfInBounds_toArray, List.set_cons_zero, List.set_cons_succ]
        refine rg_take rfl rfl hS (fun W hW => exec_eql_to ab23 _ _ rfl k j rfl rfl HK.out HJ.out E0.out) ?_
        simp only [Act.put, List.setIfInBounds_toArray, List.set_cons_zero, List.set_cons_succ]
        refine rg_one rfl rfl ?_; intro K hK; go_simp
        with_reducible refine (CL _).out.mono ?_
        rintro e wr_1 ⟨Ar_1, cr_1, rfl, txr_1, hwr_1⟩
        have hSr_1 : Below wr.heap.size wr wr_1 := Below.trans hS (hwr_1.mono (Below.size hS))
        refine hK _ _ (fun _ => hSr_1) ?_; clear hK
        refine rg_one rfl rfl ?_; intro K hK; go_simp
        with_reducible refine (CL2 _).out.mono ?_
        rintro e wr_2 ⟨Ar_2, cr_2, rfl, txr_2, hwr_2⟩
        have hSr_2 : Below wr.heap.size wr wr_2 := Below.trans hSr_1 (hwr_2.mono (Below.size hSr_1))
        refine hK _ _ (fun _ => hSr_2) ?_; clear hK
        refine rg_one rfl rfl ?_; intro K hK; go_simp
        with_reducible refine (same_tx _ _ _ _ _ _ _ _ _ (txr_1.below hwr_2) txr_2 false E1.out).mono ?_
        rintro e _ ⟨rfl, rfl⟩
        refine hK _ _ (fun _ => hSr_2) ?_; clear hK
        refine rg_take (v := ?v6_10) rfl rfl hSr_2 ?y6_10 ?_
        case y6_10 => intro W hW; (try subst hW); go_simp; try with_reducible rfl
        simp only [Act.put, List.setIfInBounds_toArray, List.set_cons_zero, List.set_cons_succ]
        refine rg_skip rfl rfl hSr_2 ?_
        simp only [Act.put, List.setIfInBounds_toArray, List.set_cons_zero, List.set_cons_succ]
        refine rg_skip rfl rfl hSr_2 ?_
        simp only [Act.put, List.setIfInBounds_toArray, List.set_cons_zero, List.set_cons_succ]
        refine rg_skip rfl rfl hSr_2 ?_
        simp only [Act.put, List.setIfInBounds_toArray, List.set_cons_zero, List.set_cons_succ]
        refine rg_take (v := ?v6_14) rfl rfl hSr_2 ?y6_14 ?_
        case y6_14 => intro W hW; (try subst hW); go_simp; try with_reducible rfl
        simp only [Act.put, List.setIfInBounds_toArray, List.set_cons_zero, List.set_cons_succ]
        refine rg_take (v := ?v6_15) rfl rfl hSr_2 ?y6_15 ?_
        case y6_15 => intro W hW; (try subst hW); go_simp; try with_reducible rfl
        simp only [Act.put, List.setIfInBounds_toArray, List.set_cons_zero, List.set_cons_succ]
        refine rg_take (v := ?v6_16) rfl rfl hSr_2 ?y6_16 ?_
        case y6_16 => intro W hW; (try subst hW); go_simp; try with_reducible rfl
        simp only [Act.put, List.setIfInBounds_toArray, List.set_cons_zero, List.set_cons_succ]
        refine rg_done (by kernel_rfl) ?_
        obtain ⟨w5, hw5d⟩ : ∃ w5, w5 = wr_2 := ⟨_, rfl⟩
        rw [← hw5d] at hSr_2 ⊢
        have hB5 : Below w0.heap.size w0 w5 := hB3.trans (hSr_2.mono hB3.size)
        clear hSr_1 hSr_2 txr_1 txr_2 hwr_1 hwr_2 hw5d hB3
        go_upto_region 13 with fail
        refine rg_begin (Below w5.heap.size w5) [] [2, 5, 6] [0, 1, 3, 4, 7, 8, 9, 2, 5, 6, 10, 11] 0 mixed (by kernel_rfl) (fun _ _ _ _ e hh => ⟨e.symm.trans hh.1, hh.2⟩) ?_
        simp only [pick, List.map_cons, List.map_nil, List.getD_cons_zero, List.getD_cons_succ]
        have hS : (Below w5.heap.size w5) _ := (Below.refl _ _).drew
        refine rg_take rfl rfl hS (fun W hW => exec_load_agg at25w (.tmp 10) rfl (w.heap.size + 2) 25 (bvs a) rfl (c3.below (Below.trans hB5 (Below.mono hW hB5.size)) c3.lt) (by rw [bvs_length]; exact HA.out)) ?_
        simp only [Act.put, List.setIfInBounds_toArray, List.set_cons_zero, List.set_cons_succ]
        refine rg_take rfl rfl hS (fun W hW => exec_load_agg at25w (.tmp 11) rfl (w.heap.size + 3) 25 (bvs b) rfl (c4.below (Below.trans hB5 (Below.mono hW hB5.size)) c4.lt) (by rw [bvs_length]; exact HB.out)) ?_
        simp only [Act.put, List.setIfInBounds_toArray, List.set_cons_zero, List.set_cons_succ]
        refine rg_take rfl rfl hS (fun W hW => exec_load_agg at25w (.tmp 11) rfl (w.heap.size + 3) 25 (bvs b) rfl (c4.below (Below.trans hB5 (Below.mono hW hB5.size)) c4.lt) (by rw [bvs_length]; exact HB.out)) ?_
        simp only [Act.put, List.setIfInBounds_toArray, List.set_cons_zero, List.set_cons_succ]
        refine rg_take rfl rfl hS (fun W hW => exec_load_agg at25w (.tmp 10) rfl (w.heap.size + 2) 25 (bvs a) rfl (c3.below (Below.trans hB5 (Below.mono hW hB5.size)) c3.lt) (by rw [bvs_length]; exact HA.out)) ?_
        simp only [Act.put, List.setIfInBounds_toArray, List.set_cons_zero, List.set_cons_succ]
        refine rg_take rfl rfl hS (fun W hW => exec_load_agg at25w (.tmp 10) rfl (w.heap.size + 2) 25 (bvs a) rfl (c3.below (Below.trans hB5 (Below.mono hW hB5.size)) c3.lt) (by rw [bvs_length]; exact HA.out)) ?_
        simp only [Act.put, List.setIfInBounds_toArray, List.set_cons_zero, List.set_cons_succ]
        refine rg_take rfl rfl hS (fun W hW => exec_load_agg at25w (.tmp 11) rfl (w.heap.size + 3) 25 (bvs b) rfl (c4.below (Below.trans hB5 (Below.mono hW hB5.size)) c4.lt) (by rw [bvs_length]; exact HB.out)) ?_
        simp only [Act.put, List.setIfInBounds_toArray, List.set_cons_zero, List.set_cons_succ]
        refine rg_take rfl rfl hS (fun W hW => exec_eql_to ab25 _ _ rfl a b rfl rfl HA.out HB.out HE.out) ?_
        simp only [Act.put, List.setIfInBounds_toArray, List.set_cons_zero, List.set_cons_succ]
        refine rg_one rfl rfl ?_; intro K hK; go_simp
        with_reducible refine (CI _).out.mono ?_
        rintro e ws_1 ⟨As_1, cs_1, rfl, txs_1, hws_1⟩
        have hSs_1 : Below w5.heap.size w5 ws_1 := Below.trans hS (hws_1.mono (Below.size hS))
        refine hK _ _ (fun _ => hSs_1) ?_; clear hK
        refine rg_one rfl rfl ?_; intro K hK; go_simp
        with_reducible refine (CI2 _).out.mono ?_
        rintro e ws_2 ⟨As_2, cs_2, rfl, txs_2, hws_2⟩
        have hSs_2 : Below w5.heap.size w5 ws_2 := Below.trans hSs_1 (hws_2.mono (Below.size hSs_1))
        refine hK _ _ (fun _ => hSs_2) ?_; clear hK
        refine rg_one rfl rfl ?_; intro K hK; go_simp
        with_reducible refine (same_tx _ _ _ _ _ _ _ _ _ (txs_1.below hws_2) txs_2 E E2.out).mono ?_
        rintro e _ ⟨rfl, rfl⟩
        refine hK _ _ (fun _ => hSs_2) ?_; clear hK
        refine rg_take (v := ?v7_10) rfl rfl hSs_2 ?y7_10 ?_
        case y7_10 => intro W hW; (try subst hW); go_simp; try with_reducible rfl
        simp only [Act.put, List.setIfInBounds_toArray, List.set_cons_zero, List.set_cons_succ]
        refine rg_take (v := ?v7_11) rfl rfl hSs_2 ?y7_11 ?_
        case y7_11 => intro W hW; (try subst hW); go_simp; try with_reducible rfl
        simp only [Act.put, List.setIfInBounds_toArray, List.set_cons_zero, List.set_cons_succ]
        refine rg_done (by kernel_rfl) ?_
        have hB6 : Below w0.heap.size w0 ws_2 := hB5.trans (hSs_2.mono hB5.size)
        have TX6 := TX.below hB6
        have TY6 := TY.below hB6
        go_wp2_with (first
          | (go_at_call 27; with_reducible refine (CV ws_2 TX6).out.mono ?_; rintro e w7 ⟨A7, d7, rfl, t7, hw7⟩)
          | (go_at_call 27; with_reducible refine (CV2 w7 (TY6.below hw7)).out.mono ?_; rintro e w8 ⟨A8, d8, rfl, t8, hw8⟩)
          | (go_at_call 33; with_reducible refine (same_tx _ _ _ _ _ _ _ _ w8 (t7.below hw8) t8 F E3.out).mono ?_; rintro e _ ⟨rfl, rfl⟩)
          | (go_at_call 33; with_reducible refine (same_tx _ _ _ _ _ _ _ _ w8 ((TX6.below hw7).below hw8) ((TY6.below hw7).below hw8) F HF.out).mono ?_; rintro e _ ⟨rfl, rfl⟩))
        go_ret
        have hB8 := bthen (bthen hB6 hw7 hB6.size) hw8 (Nat.le_trans hB6.size hw7.size)
        exact ⟨rfl, c0.trans (hB8.mono c0.size)⟩
end Go.Proofs.Ytehbahobkgoapaa
