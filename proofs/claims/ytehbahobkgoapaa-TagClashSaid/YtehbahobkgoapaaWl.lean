/- Contracts of sha: a state's digest; a text's digest. -/
import Derived.Test.YtehbahobkgoapaaWk
import Derived.Test.YtehbahobkgoapaaOc
import Derived.Laws.BitsAllLaws
namespace Go.Proofs.Ytehbahobkgoapaa
open Go Go.RowKit
set_option linter.unusedSimpArgs false
set_option linter.unusedVariables false

theorem exec_uand {P : Program} {w : World} {a : Act} {o : Oper} {t t' : TypeId} (x y : Operand) (ho : o.op = .binOp .and t x y t') (m n r : Nat) (hx : a.eval x = .int .u64 (m : Int)) (hy : a.eval y = .int .u64 (n : Int)) (hm : m < 18446744073709551616) (hn : n < 18446744073709551616) (hr : m &&& n = r) :
    (execOp a.eval o).run P w = .ok (.value (.int .u64 (r : Int))) w := by
  subst hr
  unfold execOp
  simp only [ho, hx, hy]
  go_simp
  rw [u64_and_nat _ _ hm hn]
theorem and_low (T : Nat) : T &&& 4294967295 = T % 4294967296 := Nat.and_two_pow_sub_one_eq_mod T 32
theorem put32_be (x : Nat) (u : World) (hx : x < 4294967296) :
    Calls Try.prog 37 #[.int .i64 (x : Int)] u fun e w' => ∃ A c, e = .returned (.tuple #[.slice A 4 c, .int .i64 0]) ∧ OwnB w' u.heap.size 5 (.slice A 4 c) (be 4 x) ∧ Below u.heap.size u w' := by
  have e1 : putE 4294967295 (x : Int) = 0 := by unfold putE; rw [if_pos (by omega)]
  have e2 : putL 4 4294967295 (x : Int) = be 4 x := by unfold putL; rw [if_pos (by omega), Int.toNat_natCast]
  refine (put32 (x : Int) u (by omega)).mono ?_
  rintro e w' ⟨v, rfl, ho, hw⟩
  rw [e1, e2] at *
  obtain ⟨A, c, rfl, _⟩ := ho.rd
  rw [be_length] at ho ⊢
  exact ⟨A, c, rfl, ho, hw⟩
theorem OwnB.lft {w : World} {base E g : Nat} {A : Option Addr} {n c : Nat} {l : List UInt8} (h : OwnB w base E (.slice A n c) l) (hg : g < base) : Lft (· = g) w A n c l := by
  obtain ⟨A', c', e, h1, h2, h3⟩ := h.rd
  injection e with e1 e2 e3
  subst e1; subst e3
  refine ⟨e2.symm, by omega, h2, h3, ?_⟩
  intro ad had e
  rcases h with ⟨h, _⟩ | ⟨g', sp, h, hb, _⟩
  · injection h with h _ _
    rw [had] at h
    cases h
  · injection h with h _ _
    rw [had] at h
    cases h
    simp at e
    omega
theorem one_lft {w : World} {g : Nat} (x : UInt8) (v : Value) (hv : bv x = v) (hg : g < w.heap.size) : Lft (· = g) (w.alloc (.cells #[v] 5)) (some ⟨w.heap.size, 0, none⟩) 1 1 [x] :=
  ⟨rfl, Nat.le_refl _, by decide, one_new w x v hv, by intro ad h e; cases h; simp at e; omega⟩
theorem fr_below {S : Nat → Prop} {a b : World} {B : Nat} (h : Fr S a b) (hS : ∀ k, S k → B ≤ k) (hB : B ≤ a.heap.size) : Below B a b :=
  ⟨h.os, h.tape, h.output, h.size, fun k hk => h.block k (by omega) (fun hs => by have := hS k hs; omega)⟩
def allOf (w : World) (g : Nat) : Nat := match w.cell? ⟨g, 74, none⟩ with
  | some (.int _ z) => z.toNat
  | _ => 0
theorem St.all {w : World} {g : Nat} {m : List UInt8} (h : St w g m) : allOf w g = m.length := by
  obtain ⟨b, hs, hb⟩ := h
  unfold allOf
  rw [hb.atA (hOf_length m) hs.1]
  simp
/-- While a copy of the state is ended: the result's block, the copy in block g. -/
structure SumS (N g : Nat) (w wr : World) (m : List UInt8) : Prop where
  bel : Below N w wr
  out : Blk wr N 25 (bvs (zb 32))
  st : St wr g m
  lt : N < g
theorem SumS.write {N g : Nat} {w wr w2 : World} {m m2 : List UInt8} (h : SumS N g w wr m) (hf : Fr (· = g) wr w2) (hs : St w2 g m2) : SumS N g w w2 m2 :=
  ⟨h.bel.trans (fr_below hf (fun k e => by rw [e]; exact Nat.le_of_lt h.lt) (Nat.le_of_lt h.out.lt)), h.out.fr hf (fun e => by have := h.lt; omega), hs, h.lt⟩
theorem SumS.below {N g : Nat} {w wr w2 : World} {m : List UInt8} (h : SumS N g w wr m) (hb : Below wr.heap.size wr w2) : SumS N g w w2 m :=
  ⟨h.bel.trans (hb.mono (Nat.le_of_lt h.out.lt)), h.out.below hb h.out.lt, h.st.below hb, h.lt⟩
theorem SumS.alloc {N g : Nat} {w wr : World} {m : List UInt8} (h : SumS N g w wr m) (o : Obj) : SumS N g w (wr.alloc o) m := h.below ((Below.refl _ _).alloc (Nat.le_refl _) o)

theorem write_one (g : Nat) (m : List UInt8) (A : Option Addr) (c : Nat) (y : UInt8) (w : World) (h : St w g m) (hx : Lft (· = g) w A 1 c [y]) (hb : m.length + 1 ≤ 4611686018427387904) :
    Calls Try.prog 84 #[.pointer (some ⟨g, 0, none⟩), .slice A 1 c] w fun e w' => e = .returned (.int .i64 1) ∧ St w' g (m ++ [y]) ∧ Fr (· = g) w w' := write_state g m A 1 c [y] w h rfl (fun _ => hx) hb
theorem splice_bvs (a y : List UInt8) (k : Nat) : splice (bvs a) k (bvs y) = bvs (splice a k y) := by
  unfold splice bvs
  simp [List.map_take, List.map_drop]
set_option maxRecDepth 100000 in
set_option maxHeartbeats 4000000 in
theorem sum_state (g : Nat) (m : List UInt8) (w : World) (h : St w g m) (hb : m.length ≤ 1152921504606846976) :
    Calls Try.prog 85 #[.pointer (some ⟨g, 0, none⟩)] w fun e w' => e = .returned (arr8 (shaL m)) ∧ Below w.heap.size w w' := by
  obtain ⟨b, hs, hblk⟩ := h
  have C := fun (u : World) (hu : u.cell? ⟨g, 0, none⟩ = some (.bool true)) => Lib.hid (none_no g u hu)
  have HHL := Lib.hid (hOf_length m)
  have hcl : Hid ((stC (hOf m) b (m.length % 64) m.length).length = 75) := Lib.hid (stC_length HHL.out hs.1)
  have h1 := stC_one (hOf m) b (m.length % 64) m.length
  have HF : Hid (∀ (w' : World) (g' : Nat), Blk w' g' 128 (stC (hOf m) b (m.length % 64) m.length) → St w' g' m) := Lib.hid (fun w' g' h => ⟨b, hs, h⟩)
  have hb0 : Blk (w.alloc (.cells (bvs (zb 32)).toArray 25)) g 128 (stC (hOf m) b (m.length % 64) m.length) := hblk.alloc _
  have hc0 := Lib.hid (hb0.at0)
  have hbz : Blk (w.alloc (.cells (bvs (zb 32)).toArray 25)) w.heap.size 25 (bvs (zb 32)) := Blk.new _ _ _
  have hw0 : Below w.heap.size w (w.alloc (.cells (bvs (zb 32)).toArray 25)) := (Below.refl _ _).alloc (Nat.le_refl _) _
  have HPA : Hid ((hOf (pad m)).flatMap (be 4) = shaL m) := Lib.hid rfl
  clear hs hblk
  generalize stC (hOf m) b (m.length % 64) m.length = cs at *
  generalize shaL m = res at *
  unfold arr8
  go_enter Try.func85, Try.ntmps85
  go_upto_region 1 with fail
  generalize hW : World.alloc w _ = w0
  have h3 : Blk w0 g 128 cs ∧ Hid (w0.cell? ⟨g, 0, none⟩ = some (.bool true)) ∧ Blk w0 w.heap.size 25 (bvs (zb 32)) ∧ Below w.heap.size w w0 := by rw [← hW]; exact ⟨hb0, hc0, hbz, hw0⟩
  clear hb0 hc0 hbz hw0 hW
  obtain ⟨hb0, hc0, hbz, hw0⟩ := h3
  go_upto_region 3 with (first
    | (go_at_call 142; with_reducible refine (C _ hc0.out).out.mono ?_; rintro e w1 ⟨rfl, rfl⟩))
  have hz0 : Blk (w0.alloc (.cells Try.zeroCells128 128)) w0.heap.size 128 zst := by rw [zero128]; exact Blk.new _ _ _
  have hz1 : Blk (w0.alloc (.cells Try.zeroCells128 128)) w.heap.size 25 (bvs (zb 32)) := hbz.alloc _
  have hz2 : Below w.heap.size w (w0.alloc (.cells Try.zeroCells128 128)) := hw0.alloc (Nat.le_of_lt hbz.lt) _
  refine wp_region_lit ?_
  refine wpList_yield rfl _ (exec_move _ rfl) ?_
  simp only [Act.put, List.setIfInBounds_toArray, List.set_cons_zero, List.set_cons_succ]
  refine wpList_yield rfl _ (exec_nilck _ rfl _ rfl) ?_
  simp only [Act.put, List.setIfInBounds_toArray, List.set_cons_zero, List.set_cons_succ]
  refine wpList_yield rfl _ (exec_load_agg at128 (.tmp 18) rfl g 128 cs rfl hb0 hcl.out) ?_
  simp only [Act.put, List.setIfInBounds_toArray, List.set_cons_zero, List.set_cons_succ]
  refine wpList_plain rfl fun K hK => ?_; go_simp
  refine hK _ _ ?_; clear hK
  (try simp only [Act.put, List.setIfInBounds_toArray, List.set_cons_zero, List.set_cons_succ])
  refine wpList_store_at at128.i rfl (.tmp 3) (.tmp 19) rfl w0.heap.size 0 128 zst cs rfl rfl hz0 hcl.out (by rw [zst_length]; exact Nat.le_refl 75) h1 ?_
  intro w2 hb2 hg2 hs2
  (try simp only [Act.put, List.setIfInBounds_toArray, List.set_cons_zero, List.set_cons_succ])
  refine wpList_nil ?_
  rw [splice_all _ _ (by rw [zst_length, hcl.out])] at hb2
  have hlt0 := hbz.lt
  have s2 : SumS w.heap.size w0.heap.size w w2 m := ⟨hz2.grown hg2 hz2.size (by intro k hk; cases hk; omega), hz1.grown hg2 (by simp; omega), HF.out _ _ hb2, hlt0⟩
  clear HF hz0 hz1 hz2 hb2 hg2 hs2 hb0 hc0 hbz hw0 C HHL
  generalize w0.heap.size = G at *
  obtain ⟨b2, hsb2, hblk2⟩ := s2.st
  have hA := Lib.hid (hblk2.atA (hOf_length m) hsb2.1)
  clear hblk2 hsb2 b2
  obtain ⟨T, hT⟩ : ∃ T, 8 * m.length = T := ⟨_, rfl⟩
  have HT := Lib.hid hT
  have HTB : Hid ((m.length : Int) * 8 = (T : Int)) := Lib.hid (by omega)
  have hTb : T ≤ 9223372036854775808 := by omega
  clear hT
  go_upto_region 4 with fail
  refine wp_region_lit ?_
  refine wpList_yield rfl _ (exec_f4 _ rfl G rfl) ?_
  simp only [Act.put, List.setIfInBounds_toArray, List.set_cons_zero, List.set_cons_succ]
  refine wpList_yield rfl _ (exec_load3 _ rfl _ _ rfl hA.out) ?_
  simp only [Act.put, List.setIfInBounds_toArray, List.set_cons_zero, List.set_cons_succ]
  refine wpList_yield rfl _ (exec_conv Try.underlying3 Try.underlying175 _ rfl .i64 (m.length : Int) (m.length : Int) rfl rfl (by rw [IntKind.wrap_u64]; omega)) ?_
  simp only [Act.put, List.setIfInBounds_toArray, List.set_cons_zero, List.set_cons_succ]
  refine wpList_yield rfl _ (exec_umul _ _ rfl (m.length : Int) 8 (T : Int) rfl rfl HTB.out (by have := HTB.out; omega)) ?_
  simp only [Act.put, List.setIfInBounds_toArray, List.set_cons_zero, List.set_cons_succ]
  refine wpList_yield rfl _ (exec_assign _ rfl) ?_
  simp only [Act.put, List.setIfInBounds_toArray, List.set_cons_zero, List.set_cons_succ]
  refine wpList_nil ?_
  go_upto_region 5 with fail
  have s3 := s2.alloc (.cells #[.int .u8 128] 5)
  have hG2 := s2.st.lt
  refine wp_region_lit ?_
  refine wpList_plain rfl fun K hK => ?_; go_simp
  refine hK _ _ ?_; clear hK
  (try simp only [Act.put, List.setIfInBounds_toArray, List.set_cons_zero, List.set_cons_succ])
  refine wpList_plain rfl fun K hK => ?_; go_simp
  with_reducible refine (write_one G m (some ⟨w2.heap.size, 0, none⟩) 1 128 _ s3.st (one_lft 128 _ rfl hG2) (by omega)).mono ?_
  rintro e w4 ⟨rfl, hs4, hf4⟩
  refine hK _ _ ?_; clear hK
  (try simp only [Act.put, List.setIfInBounds_toArray, List.set_cons_zero, List.set_cons_succ])
  refine wpList_nil ?_
  have s4 : SumS w.heap.size G w w4 (padTo m 0) := s3.write hf4 hs4
  clear s2 s3 hs4 hf4 hA hG2
  go_wp2_with fail
  have hz64 : padz m.length < 64 := padz_lt _
  go_loopw [26] (fun _ wr => ∃ j : Nat, j ≤ padz m.length ∧ SumS w.heap.size G w wr (padTo m j)) (fun _ wr => m.length + 65 - allOf wr G)
  case atStart => exact ⟨0, by omega, s4⟩
  case round =>
    clear s4
    obtain ⟨j, hj, s4⟩ := hrel
    obtain ⟨b3, hsb3, hblk3⟩ := s4.st
    obtain ⟨r, hr1⟩ : ∃ r, (m.length + 1 + j) % 64 = r := ⟨_, rfl⟩
    have hst := padTo_stop m.length j hj
    rw [hr1] at hst
    have hcn := hblk3.atN (hOf_length _) hsb3.1
    rw [padTo_length, hr1] at hcn
    have HC := Lib.hid hcn
    have hall := Lib.hid (s4.st.all)
    rw [padTo_length] at hall
    have hG4 := s4.st.lt
    clear hblk3 hsb3 b3 hr1 hcn
    by_cases hjl : j = padz m.length
    · obtain rfl : r = 56 := hst.2 hjl
      subst hjl
      clear hst hj
      obtain ⟨hi, hhi⟩ : ∃ hi, T / 4294967296 = hi := ⟨_, rfl⟩
      obtain ⟨lo, hlo⟩ : ∃ lo, T % 4294967296 = lo := ⟨_, rfl⟩
      have hhib : hi < 4294967296 := by omega
      have hlob : lo < 4294967296 := by omega
      have HHI : Hid (IntKind.i64.wrap ((T / 4294967296 : Nat) : Int) = (hi : Int)) := Lib.hid (by rw [hhi]; exact IntWalk.i64_in _ (by omega))
      have HLO : Hid (T &&& 4294967295 = lo) := Lib.hid (by rw [and_low]; exact hlo)
      have HLW : Hid (IntKind.i64.wrap (lo : Int) = (lo : Int)) := Lib.hid (IntWalk.i64_in _ (by omega))
      have HPAD : Hid ((padTo m (padz m.length) ++ be 4 hi) ++ be 4 lo = pad m) := Lib.hid (by rw [List.append_assoc, ← hhi, ← hlo, ← be_split, ← HT.out]; exact padTo_end m)
      have HPL : Hid ((padTo m (padz m.length)).length = m.length + 1 + padz m.length) := Lib.hid (padTo_length _ _)
      have P1 := fun u => Lib.hid (put32_be hi u hhib)
      have P2 := fun u => Lib.hid (put32_be lo u hlob)
      clear hhi hlo
      generalize padTo m (padz m.length) = q at *
      go_upto_region 8 with (first
        | ((with_reducible refine at_dst 27 ?_); refine wpList_yield rfl _ (exec_load3 _ rfl _ _ rfl HC.out) ?_))
      go_upto_region 10 with (first
        | ((with_reducible refine at_dst 33 ?_); refine wpList_yield rfl _ (exec_ushr _ _ rfl T 32 _ rfl rfl (by decide) 4294967296 rfl) ?_)
        | ((with_reducible refine at_dst 34 ?_); refine wpList_yield rfl _ (exec_conv Try.underlying175 Try.underlying2 _ rfl .u64 _ (hi : Int) rfl rfl HHI.out) ?_)
        | ((with_reducible refine at_dst 40 ?_); refine wpList_yield rfl _ (exec_uand _ _ rfl T 4294967295 lo rfl rfl (by omega) (by decide) HLO.out) ?_)
        | ((with_reducible refine at_dst 41 ?_); refine wpList_yield rfl _ (exec_conv Try.underlying175 Try.underlying2 _ rfl .u64 (lo : Int) (lo : Int) rfl rfl HLW.out) ?_)
        | (go_at_call 37; with_reducible refine (P1 _).out.mono ?_; rintro e w5 ⟨A5, c5, rfl, ho5, hw5⟩)
        | (go_at_call 37; with_reducible refine (P2 _).out.mono ?_; rintro e w6 ⟨A6, c6, rfl, ho6, hw6⟩))
      have s6 : SumS w.heap.size G w w6 q := (s4.below hw5).below hw6
      have hl5 : Lft (· = G) w6 A5 4 c5 (be 4 hi) := (ho5.lft hG4).fr (S := (· = G)) (T := (· = G)) (Fr.of_below hw6) (fun k e => e)
      have hl6 : Lft (· = G) w6 A6 4 c6 (be 4 lo) := ho6.lft (Nat.lt_of_lt_of_le hG4 hw5.size)
      clear s4 ho5 ho6 hw5 hw6 hG4 hall
      have hq1 : q.length + 4 ≤ 4611686018427387904 := by rw [HPL.out]; omega
      have hq2 : (q ++ be 4 hi).length + 4 ≤ 4611686018427387904 := by rw [List.length_append, be_length, HPL.out]; omega
      go_upto_region 12 with (first
        | (go_at_call 84; with_reducible refine (write_state G q A5 4 c5 (be 4 hi) w6 s6.st (be_length _ _) (fun _ => hl5) hq1).mono ?_; rintro e w7 ⟨rfl, hs7, hf7⟩)
        | (go_at_call 84; with_reducible refine (write_state G (q ++ be 4 hi) A6 4 c6 (be 4 lo) w7 hs7 (be_length _ _) (fun _ => hl6.fr hf7 (fun k e => e)) hq2).mono ?_; rintro e w8 ⟨rfl, hs8, hf8⟩))
      have s8 : SumS w.heap.size G w w8 (pad m) := by
        rw [← HPAD.out]
        exact (s6.write hf7 hs7).write hf8 hs8
      clear s6 hl5 hl6 hs7 hf7 hs8 hf8 hq1 hq2 HPAD HPL P1 P2
      generalize pad m = P at *
      have t1 := s8.alloc (.cells (bvs (zb 32)).toArray 25)
      have t2 : Blk (w8.alloc (.cells (bvs (zb 32)).toArray 25)) w8.heap.size 25 (bvs (outW (hOf P) 0)) := by rw [outW_zero]; exact Blk.new _ _ _
      have hG8 := s8.out.lt
      clear s8
      go_upto_region 13 with fail
      generalize hW : World.alloc w8 _ = w9
      have h3 : SumS w.heap.size G w w9 P ∧ Blk w9 w8.heap.size 25 (bvs (outW (hOf P) 0)) := by rw [← hW]; exact ⟨t1, t2⟩
      clear hW t1 t2
      obtain ⟨t1, t2⟩ := h3
      generalize w8.heap.size = G2 at *
      have hHL := hOf_length P
      have hHT := hOf_lt P
      obtain ⟨b4, hsb4, hblk4⟩ := t1.st
      have hdh : Hid (((stC (hOf P) b4 (P.length % 64) P.length).drop 1).take 8 = wvs (hOf P)) := Lib.hid (stC_h hHL)
      have t3 := t1.bel
      have t4 := t1.out
      clear t1 hsb4
      generalize hOf P = H at *
      have HHL := Lib.hid hHL
      refine wp_region_lit ?_
      refine wpList_yield rfl _ (exec_f1 _ rfl G rfl) ?_
      simp only [Act.put, List.setIfInBounds_toArray, List.set_cons_zero, List.set_cons_succ]
      refine wpList_yield rfl _ (exec_load_at at96 _ rfl G 1 128 _ (wvs H) rfl hblk4 hdh.out (by rw [wvs_length]; exact HHL.out)) ?_
      simp only [Act.put, List.setIfInBounds_toArray, List.set_cons_zero, List.set_cons_succ]
      refine wpList_yield rfl _ (exec_move _ rfl) ?_
      simp only [Act.put, List.setIfInBounds_toArray, List.set_cons_zero, List.set_cons_succ]
      refine wpList_nil ?_
      have hHlt : Hid (∀ d, d < 8 → H[d]? = some (H.getD d 0)) := Lib.hid (fun d hd => getD_some H d (by rw [HHL.out]; exact hd))
      have hH32 : Hid (∀ d, H.getD d 0 < 4294967296) := Lib.hid (fun d => ext_get_lt H d hHT)
      have hOS := Lib.hid (fun (i : Nat) (hi : i < 8) => outW_step H i hHL hi)
      have hOL := Lib.hid (fun (i : Nat) (hi : i ≤ 8) => outW_length H i hHL hi)
      have hOE : Hid (outW H 8 = res) := Lib.hid (by rw [outW_end H hHL]; exact HPA.out)
      clear hdh hblk4 hHL HPA hHT
      go_wp2_with fail
      go_loopw [51] (fun v wr => ∃ i : Nat, i ≤ 8 ∧ v = .int .i64 (i : Int) ∧ Blk wr G2 25 (bvs (outW H i)) ∧ Blk wr w.heap.size 25 (bvs (zb 32)) ∧ Below w.heap.size w wr) (fun v _ => 8 - (intOf v).toNat)
      case atStart => exact ⟨0, by omega, by go_num, t2, t4, t3⟩
      case round =>
        clear t2 t3 t4
        obtain ⟨i, hi8, rfl, t2, t4, t3⟩ := hrel
        by_cases hil : i < 8
        · have hiz : (i : Int) < 8 := by omega
          obtain ⟨x, hx⟩ : ∃ x, x = H.getD i 0 := ⟨_, rfl⟩
          have ex : Hid (H[i]? = some x) := Lib.hid (by rw [hx]; exact hHlt.out i hil)
          have hx32 : x < 4294967296 := by rw [hx]; exact hH32.out i
          have HS : Hid (splice (outW H i) (4 * i) (be 4 x) = outW H (i + 1)) := Lib.hid (by rw [hx]; exact hOS.out i hil)
          have HQL := Lib.hid (hOL.out i hi8)
          have HXW : Hid (IntKind.i64.wrap (x : Int) = (x : Int)) := Lib.hid (IntWalk.i64_in _ (by omega))
          have P3 := fun u => Lib.hid (put32_be x u hx32)
          have hG2 := t2.lt
          clear hx
          go_upto_region 15 with fail
          refine wp_region_lit ?_
          refine wpList_yield rfl _ (exec_move _ rfl) ?_
          simp only [Act.put, List.setIfInBounds_toArray, List.set_cons_zero, List.set_cons_succ]
          refine wpList_yield rfl _ (exec_index_agg _ _ rfl H i .i64 x rfl rfl HHL.out ex.out) ?_
          simp only [Act.put, List.setIfInBounds_toArray, List.set_cons_zero, List.set_cons_succ]
          refine wpList_yield rfl _ (exec_assign _ rfl) ?_
          simp only [Act.put, List.setIfInBounds_toArray, List.set_cons_zero, List.set_cons_succ]
          refine wpList_yield rfl _ (exec_assign _ rfl) ?_
          simp only [Act.put, List.setIfInBounds_toArray, List.set_cons_zero, List.set_cons_succ]
          refine wpList_nil ?_
          go_upto_region 17 with (first
            | ((with_reducible refine at_dst 57 ?_); refine wpList_yield rfl _ (exec_conv Try.underlying94 Try.underlying2 _ rfl .u32 (x : Int) (x : Int) rfl rfl HXW.out) ?_)
            | (go_at_call 37; with_reducible refine (P3 _).out.mono ?_; rintro e w10 ⟨A7, c7, rfl, ho7, hw7⟩))
          obtain ⟨A8, c8, e8, h8, h9, hrd⟩ := ho7.rd
          injection e8 with e9 e10 e11
          subst e9; subst e11
          clear e10 h8 h9
          have t5 := t2.below hw7 hG2
          refine wp_region_lit ?_
          refine wpList_yield rfl _ (exec_move _ rfl) ?_
          simp only [Act.put, List.setIfInBounds_toArray, List.set_cons_zero, List.set_cons_succ]
          refine wpList_yield rfl _ (exec_imul _ _ rfl _ _ (((4 * i : Nat) : Int)) rfl rfl (by omega) (by omega)) ?_
          simp only [Act.put, List.setIfInBounds_toArray, List.set_cons_zero, List.set_cons_succ]
          refine wpList_yield rfl _ (exec_arr_from ia25 _ _ rfl G2 0 (4 * i) _ rfl rfl (by omega)) ?_
          simp only [Act.put, List.setIfInBounds_toArray, List.set_cons_zero, List.set_cons_succ]
          refine wpList_yield rfl _ (exec_move _ rfl) ?_
          simp only [Act.put, List.setIfInBounds_toArray, List.set_cons_zero, List.set_cons_succ]
          refine wpList_copy_mid bt rfl (.tmp 63) (.tmp 64) rfl G2 (0 + 4 * i) (32 - 4 * i) (32 - 4 * i) A7 4 c7 rfl rfl 25 (bvs (outW H i)) (be 4 x) t5 hrd (be_length _ _) (by rw [bvs_length, HQL.out]; omega) ?_
          intro w11 hb11 hg11 hs11
          (try simp only [Act.put, List.setIfInBounds_toArray, List.set_cons_zero, List.set_cons_succ])
          refine wpList_nil ?_
          rw [List.take_of_length_le (by rw [be_length]; omega), splice_bvs, Nat.zero_add, HS.out] at hb11
          have t6 : Below w.heap.size w w11 := (t3.trans (hw7.mono (Nat.le_of_lt t4.lt))).grown hg11 (by have := t4.lt; have := hw7.size; omega) (by intro k hk; cases hk; omega)
          have t7 := (t4.below hw7 t4.lt).grown hg11 (by simp; omega)
          go_wp2_with fail
          go_roundw
          case rel => exact ⟨i + 1, by omega, by go_num, hb11, t7, t6⟩
          case measure => simp only [intOf]; omega
        · obtain rfl : i = 8 := by omega
          rw [hOE.out] at t2
          have hrl : Hid (res.length = 32) := Lib.hid (by rw [← hOE.out]; exact hOL.out 8 (Nat.le_refl _))
          clear hOE hOL hOS hHlt hH32
          go_upto_region 19 with fail
          refine wp_region_lit ?_
          refine wpList_yield rfl _ (exec_load_agg at25w (.tmp 9) rfl _ 25 (bvs res) rfl t2 (by rw [bvs_length]; exact hrl.out)) ?_
          simp only [Act.put, List.setIfInBounds_toArray, List.set_cons_zero, List.set_cons_succ]
          refine wpList_store_at at25w.i rfl (.tmp 2) (.tmp 67) rfl w.heap.size 0 25 (bvs (zb 32)) (bvs res) rfl rfl t4 (by rw [bvs_length]; exact hrl.out) (by rw [bvs_length, zb_length]; omega) (bvs_one _) ?_
          intro w1 hb1 hg1 hs1
          (try simp only [Act.put, List.setIfInBounds_toArray, List.set_cons_zero, List.set_cons_succ])
          refine wpList_nil ?_
          go_wp2_with fail
          (try simp only [Exit.inBlock, Exit.then])
          rw [splice_all _ _ (by rw [bvs_length, bvs_length, zb_length]; exact hrl.out.symm)] at hb1
          refine bodyPost_ret (ret_cell rfl at25w _ _ w.heap.size 25 (bvs res) rfl hb1 (by rw [bvs_length]; exact hrl.out)) rfl ?_
          exact ⟨rfl, t3.grown hg1 t3.size (by intro k hk; cases hk; omega)⟩
    · have hrne : ((r : Int) == 56) = false := by
        have h := fun e => hjl (hst.1 e)
        simp; omega
      have t4 := s4.alloc (.cells #[.int .u8 0] 5)
      have hbd : (padTo m j).length + 1 ≤ 4611686018427387904 := by rw [padTo_length]; omega
      clear hst
      go_wp2_with (first
        | ((with_reducible refine at_dst 27 ?_); refine wpList_yield rfl _ (exec_load3 _ rfl _ _ rfl HC.out) ?_)
        | (go_at_call 84; with_reducible refine (write_one G (padTo m j) (some ⟨wr.heap.size, 0, none⟩) 1 0 _ t4.st (one_lft 0 _ rfl hG4) hbd).mono ?_; rintro e w5 ⟨rfl, hs5, hf5⟩))
      have s5 : SumS w.heap.size G w w5 (padTo m (j + 1)) := by
        rw [← padTo_succ]
        exact t4.write hf5 hs5
      go_roundw
      case rel => exact ⟨j + 1, by omega, s5⟩
      case measure =>
        have e1 := s5.st.all
        have e2 := hall.out
        rw [padTo_length] at e1
        omega

set_option maxRecDepth 100000 in
set_option maxHeartbeats 1000000 in
theorem sum_any (A : Option Addr) (n c : Nat) (b : List UInt8) (w : World) (hr : Rd w A (bvs b)) (hl : b.length = n) (hcap : n ≤ c) (hmax : c ≤ maxLen) (hn : n ≤ 1152921504606846976) :
    Calls Try.prog 79 #[.slice A n c] w fun e w' => e = .returned (arr8 (shaL b)) ∧ Below w.heap.size w w' := by
  have hbz : Blk (w.alloc (.cells (bvs (zb 32)).toArray 25)) w.heap.size 25 (bvs (zb 32)) := Blk.new _ _ _
  have hw0 : Below w.heap.size w (w.alloc (.cells (bvs (zb 32)).toArray 25)) := (Below.refl _ _).alloc (Nat.le_refl _) _
  have C1 := fun u => Lib.hid (new_state u)
  have HRL : Hid ((shaL b).length = 32) := Lib.hid (shaL_length b)
  have C3 := fun (g : Nat) (u : World) (h : St u g b) => Lib.hid (sum_state g b u h (by rw [hl]; exact hn))
  generalize shaL b = res at *
  unfold arr8 at *
  go_enter Try.func79, Try.ntmps79
  go_upto_region 1 with fail
  generalize hW : World.alloc w _ = w0
  have h3 : Blk w0 w.heap.size 25 (bvs (zb 32)) ∧ Below w.heap.size w w0 := by rw [← hW]; exact ⟨hbz, hw0⟩
  clear hW hbz hw0
  obtain ⟨hbz, hw0⟩ := h3
  have hz := hbz.lt
  go_upto_region 2 with (first
    | (go_at_call 83; with_reducible refine (C1 _).out.mono ?_; rintro e w1 ⟨g, rfl, hg, hs1, hw1⟩))
  have hw01 : Below w.heap.size w w1 := hw0.trans (hw1.mono hw0.size)
  go_upto_region 3 with (first
    | (go_at_call 84; with_reducible refine (write_state g [] A n c b w1 hs1 hl (fun h0 => rd_lft hr hl hcap hmax h0 hw01 (by omega)) (by rw [List.length_nil]; omega)).mono ?_; rintro e w2 ⟨rfl, hs2, hf2⟩))
  rw [List.nil_append] at hs2
  have hw02 : Below w.heap.size w w2 := hw01.trans (fr_below hf2 (fun k e => by rw [e]; omega) hw01.size)
  have hbz2 := (hbz.below hw1 hz).fr hf2 (fun e => by omega)
  refine wp_region_lit ?_
  refine wpList_yield rfl _ (exec_move _ rfl) ?_
  simp only [Act.put, List.setIfInBounds_toArray, List.set_cons_zero, List.set_cons_succ]
  refine wpList_plain rfl fun K hK => ?_; go_simp
  with_reducible refine (C3 g w2 hs2).out.mono ?_
  rintro e w3 ⟨rfl, hw3⟩
  refine hK _ _ ?_; clear hK
  (try simp only [Act.put, List.setIfInBounds_toArray, List.set_cons_zero, List.set_cons_succ])
  refine wpList_store_at at25w.i rfl (.tmp 2) (.tmp 9) rfl w.heap.size 0 25 (bvs (zb 32)) (bvs res) rfl rfl (hbz2.below hw3 hbz2.lt) (by rw [bvs_length]; exact HRL.out) (by rw [bvs_length, zb_length]; omega) (bvs_one _) ?_
  intro w4 hb4 hg4 hs4
  (try simp only [Act.put, List.setIfInBounds_toArray, List.set_cons_zero, List.set_cons_succ])
  refine wpList_nil ?_
  go_wp2_with fail
  (try simp only [Exit.inBlock, Exit.then])
  rw [splice_all _ _ (by rw [bvs_length, bvs_length, zb_length]; exact HRL.out.symm)] at hb4
  refine bodyPost_ret (ret_cell rfl at25w _ _ w.heap.size 25 (bvs res) rfl hb4 (by rw [bvs_length]; exact HRL.out)) rfl ?_
  exact ⟨rfl, (hw02.trans (hw3.mono hw02.size)).grown hg4 (by have := hw02.size; have := hw3.size; omega) (by intro k hk; cases hk; omega)⟩
end Go.Proofs.Ytehbahobkgoapaa
