import Derived.Test.YtkjjdgnkelchfaaGreatPCU3
set_option linter.unusedSimpArgs false
set_option linter.unusedVariables false
set_option maxRecDepth 100000
set_option maxHeartbeats 16000000
namespace Go.Proofs.YtkjjdgnkelchfaaGreat
open Go Go.RowKit
theorem word_or (a b c d : Nat) (ha : a < 256) (hb : b < 256) (hc : c < 256) (hd : d < 256) :
    (((a * 16777216 % 4294967296) ||| (b * 65536 % 4294967296)) ||| (c * 256 % 4294967296)) ||| d = a * 16777216 + b * 65536 + c * 256 + d := by
  rw [Nat.mod_eq_of_lt (by omega), Nat.mod_eq_of_lt (by omega), Nat.mod_eq_of_lt (by omega)]; rw [nat_join 24 (a * 16777216) (b * 65536) (by omega) (by omega)]; rw [nat_join 16 _ (c * 256) (by omega) (by omega), nat_join 8 _ d (by omega) (by omega)]
theorem xr2 (b : List UInt8) (k : Nat) (hk : k < 16) : (first k b ++ zw (64 - k)).set k (xe4 b k) = first (k + 1) b ++ zw (64 - (k + 1)) := by
  rw [List.set_append_right _ _ (by rw [xdg]; omega), xdg, Nat.sub_self]; unfold zw; rw [show 64 - k = (64 - (k + 1)) + 1 by omega, List.replicate_succ, List.set_cons_zero, first, List.append_assoc]; rfl
theorem ext_set (l : List Nat) (t n : Nat) (hl : l.length = t) (ht : t < 64) : (l ++ zw (64 - t)).set t n = (l ++ [n]) ++ zw (64 - (t + 1)) := by
  rw [List.set_append_right _ _ (by omega), hl, Nat.sub_self]; unfold zw; rw [show 64 - t = (64 - (t + 1)) + 1 by omega, List.replicate_succ, List.set_cons_zero, List.append_assoc]; rfl
theorem xi0 (l z : List Nat) (i : Nat) (h : i < l.length) : (l ++ z)[i]? = some (l.getD i 0) := by
  rw [List.getElem?_append_left h, List.getD_eq_getElem?_getD, List.getElem?_eq_getElem h]; rfl
theorem xgq (l : List Nat) (i : Nat) (hl : ∀ x ∈ l, x < 4294967296) : l.getD i 0 < 4294967296 := by
  rcases Nat.lt_or_ge i l.length with h | h
  · rw [List.getD_eq_getElem?_getD, List.getElem?_eq_getElem h]
    exact hl _ (List.getElem_mem h)
  · rw [List.getD_eq_getElem?_getD, List.getElem?_eq_none h]
    decide
theorem ext_zero (l : List Nat) : ext 0 l = l := rfl
theorem xg3 (b : List UInt8) (i : Nat) (h : i < b.length) : b[i]? = some (b.getD i 0) := by
  rw [List.getD_eq_getElem?_getD, List.getElem?_eq_getElem h]; rfl
theorem xlu (b : List UInt8) (w : World) (hl : b.length = 64) :
    Calls Tryz.prog 244 #[arr8 b] w fun e w' => e = .returned (arrW (xfj b)) ∧ Below w.heap.size w w' := by
  have HL := hZ hl; have b1 : Blk (w.alloc (.cells (bvs b).toArray 322)) w.heap.size 322 (bvs b) := Blk.new _ _ _
  have b2 : Blk ((w.alloc (.cells (bvs b).toArray 322)).alloc (.cells (wvs (zw 64)).toArray 356)) (w.heap.size + 1) 356 (wvs (zw 64)) := by
    have := Blk.new (w.alloc (.cells (bvs b).toArray 322)) 356 (wvs (zw 64)); rwa [show (w.alloc (.cells (bvs b).toArray 322)).heap.size = w.heap.size + 1 by simp] at this
  have b3 : Blk (((w.alloc (.cells (bvs b).toArray 322)).alloc (.cells (wvs (zw 64)).toArray 356)).alloc (.cells (wvs (zw 64)).toArray 356)) (w.heap.size + 2) 356 (wvs (zw 64)) := by
    have := Blk.new ((w.alloc (.cells (bvs b).toArray 322)).alloc (.cells (wvs (zw 64)).toArray 356)) 356 (wvs (zw 64)); rwa [show ((w.alloc (.cells (bvs b).toArray 322)).alloc (.cells (wvs (zw 64)).toArray 356)).heap.size = w.heap.size + 2 by simp] at this
  have hall := And.intro ((b1.alloc (.cells (wvs (zw 64)).toArray 356)).alloc (.cells (wvs (zw 64)).toArray 356)) (And.intro (b2.alloc (.cells (wvs (zw 64)).toArray 356)) (And.intro b3
    ((((Below.refl w.heap.size w).alloc (Nat.le_refl _) (.cells (bvs b).toArray 322)).alloc (by simp) (.cells (wvs (zw 64)).toArray 356)).alloc (by simp; omega) (.cells (wvs (zw 64)).toArray 356))))
  clear b1 b2 b3 hl; have HSE := hZ (xm7 b); have HS64 := hZ (xd3 b); generalize xfj b = sb at *; unfold arr8 arrW; go_enter Tryz.func244, Tryz.ntmps244; go_wp2_with fail; generalize hW : World.alloc (World.alloc (World.alloc w _) _) _ = w0; have h3 : Blk w0 w.heap.size 322 (bvs b) ∧ Blk w0 (w.heap.size + 1) 356 (wvs (zw 64)) ∧ Blk w0 (w.heap.size + 2) 356 (wvs (zw 64)) ∧ Below w.heap.size w w0 := by rw [← hW]; exact hall
  clear hall hW; obtain ⟨c1, c2, c3, c4⟩ := h3
  go_loopw [10] (fun i wr => ∃ k : Nat, k ≤ 16 ∧ i = .int .i64 (k : Int) ∧ Blk wr w.heap.size 322 (bvs b) ∧ Blk wr (w.heap.size + 1) 356 (wvs (zw 64)) ∧ Blk wr (w.heap.size + 2) 356 (wvs (first k b ++ zw (64 - k))) ∧ Below w.heap.size w wr) (fun i _ => 16 - (intOf i).toNat)
  case atStart => exact ⟨0, by omega, by go_num, c1, c2, c3, c4⟩
  case round =>
    obtain ⟨k, hk, rfl, d1, d2, d3, d4⟩ := hrel; by_cases hlt : k < 16
    · have hk0 : (k : Int) < 16 := by omega
      go_upto_region 5 with fail; have e0 := hZ (xg3 b (4 * k) (by rw [HL.out]; omega)); have e1 := hZ (xg3 b (4 * k + 1) (by rw [HL.out]; omega)); have e2 := hZ (xg3 b (4 * k + 2) (by rw [HL.out]; omega)); have e3 := hZ (xg3 b (4 * k + 3) (by rw [HL.out]; omega)); refine rB (fun W => W = wr.drew) [31] [31] [0, 1, 2, 3, 4, 5, 6, 7, 8, 9, 10, 11, 12, 13, 14, 15, 16, 17, 18, 19, 20, 21, 22, 23, 24, 25, 26, 27, 28, 29, 30, 31] 0 ?_; refine X3 ?_; have hS : (fun W => W = wr.drew) _ := rfl; refine X7 ?_; refine Xb ?_; refine X5 ?_; refine Xc ?_; refine X5 ?_; refine xab rfl rfl hS (fun W hW => xe6 w5 _ rfl _ _ _ _ _ rfl ((by subst hW; exact d1.drew)) (e0.out)) ?_; refine X5 ?_
      refine xab rfl rfl hS (fun W hW => xfz Tryz.underlying5 Tryz.underlying306 _ rfl _ rfl (by with_reducible repeat' first | assumption | exact xa8 _ _ | exact xa0 _ | exact xao _ | exact xap _ | refine xal ?_ ?_ | refine xas ?_ ?_ | refine xam ?_ | refine xar _ _ ?_ | refine xan _ ?_)) ?_; refine X5 ?_; refine xab rfl rfl hS (fun W hW => xhu _ _ rfl _ 24 _ rfl rfl (by decide) 16777216 rfl) ?_; refine X8 ?_; refine Xb ?_; refine X5 ?_; refine xab rfl rfl hS (fun W hW => xay _ _ rfl _ _ (((4 * k + 1 : Nat) : Int)) rfl rfl (by omega) (by omega)) ?_; refine X5 ?_; refine Xc ?_; refine X5 ?_; refine xab rfl rfl hS (fun W hW => xe6 w5 _ rfl _ _ _ _ _ rfl ((by subst hW; exact d1.drew)) (e1.out)) ?_; refine X5 ?_
      refine xab rfl rfl hS (fun W hW => xfz Tryz.underlying5 Tryz.underlying306 _ rfl _ rfl (by with_reducible repeat' first | assumption | exact xa8 _ _ | exact xa0 _ | exact xao _ | exact xap _ | refine xal ?_ ?_ | refine xas ?_ ?_ | refine xam ?_ | refine xar _ _ ?_ | refine xan _ ?_)) ?_; refine X5 ?_; refine xab rfl rfl hS (fun W hW => xhu _ _ rfl _ 16 _ rfl rfl (by decide) 65536 rfl) ?_; refine X5 ?_
      refine xab rfl rfl hS (fun W hW => xjj _ _ rfl _ _ rfl rfl (by with_reducible repeat' first | assumption | exact xa8 _ _ | exact xa0 _ | exact xao _ | exact xap _ | refine xal ?_ ?_ | refine xas ?_ ?_ | refine xam ?_ | refine xar _ _ ?_ | refine xan _ ?_) (by with_reducible repeat' first | assumption | exact xa8 _ _ | exact xa0 _ | exact xao _ | exact xap _ | refine xal ?_ ?_ | refine xas ?_ ?_ | refine xam ?_ | refine xar _ _ ?_ | refine xan _ ?_)) ?_; refine X8 ?_; refine Xb ?_; refine X5 ?_; refine xab rfl rfl hS (fun W hW => xay _ _ rfl _ _ (((4 * k + 2 : Nat) : Int)) rfl rfl (by omega) (by omega)) ?_; refine X5 ?_; refine Xc ?_; refine X5 ?_; refine xab rfl rfl hS (fun W hW => xe6 w5 _ rfl _ _ _ _ _ rfl ((by subst hW; exact d1.drew)) (e2.out)) ?_; refine X5 ?_
      refine xab rfl rfl hS (fun W hW => xfz Tryz.underlying5 Tryz.underlying306 _ rfl _ rfl (by with_reducible repeat' first | assumption | exact xa8 _ _ | exact xa0 _ | exact xao _ | exact xap _ | refine xal ?_ ?_ | refine xas ?_ ?_ | refine xam ?_ | refine xar _ _ ?_ | refine xan _ ?_)) ?_; refine X5 ?_; refine xab rfl rfl hS (fun W hW => xhu _ _ rfl _ 8 _ rfl rfl (by decide) 256 rfl) ?_; refine X5 ?_
      refine xab rfl rfl hS (fun W hW => xjj _ _ rfl _ _ rfl rfl (by with_reducible repeat' first | assumption | exact xa8 _ _ | exact xa0 _ | exact xao _ | exact xap _ | refine xal ?_ ?_ | refine xas ?_ ?_ | refine xam ?_ | refine xar _ _ ?_ | refine xan _ ?_) (by with_reducible repeat' first | assumption | exact xa8 _ _ | exact xa0 _ | exact xao _ | exact xap _ | refine xal ?_ ?_ | refine xas ?_ ?_ | refine xam ?_ | refine xar _ _ ?_ | refine xan _ ?_)) ?_; refine X8 ?_; refine Xb ?_; refine X5 ?_; refine xab rfl rfl hS (fun W hW => xay _ _ rfl _ _ (((4 * k + 3 : Nat) : Int)) rfl rfl (by omega) (by omega)) ?_; refine X5 ?_; refine Xc ?_; refine X5 ?_; refine xab rfl rfl hS (fun W hW => xe6 w5 _ rfl _ _ _ _ _ rfl ((by subst hW; exact d1.drew)) (e3.out)) ?_; refine X5 ?_
      refine xab rfl rfl hS (fun W hW => xfz Tryz.underlying5 Tryz.underlying306 _ rfl _ rfl (by with_reducible repeat' first | assumption | exact xa8 _ _ | exact xa0 _ | exact xao _ | exact xap _ | refine xal ?_ ?_ | refine xas ?_ ?_ | refine xam ?_ | refine xar _ _ ?_ | refine xan _ ?_)) ?_; refine X5 ?_; refine xab rfl rfl hS (fun W hW => xjj _ _ rfl _ _ rfl rfl (by with_reducible repeat' first | assumption | exact xa8 _ _ | exact xa0 _ | exact xao _ | exact xap _ | refine xal ?_ ?_ | refine xas ?_ ?_ | refine xam ?_ | refine xar _ _ ?_ | refine xan _ ?_) (by with_reducible repeat' first | assumption | exact xa8 _ _ | exact xa0 _ | exact xao _ | exact xap _ | refine xal ?_ ?_ | refine xas ?_ ?_ | refine xam ?_ | refine xar _ _ ?_ | refine xan _ ?_)) ?_
      refine X5 ?_; refine Xd ?_; refine Xf ?_; intro K hK; refine xb9 one94 _ _ rfl _ _ _ _ _ rfl rfl rfl d3.drew (by rw [xag]; simp [xdg, xb1]; omega) ?_; rw [word_or _ _ _ _ (b.getD (4 * k) 0).toNat_lt (b.getD (4 * k + 1) 0).toNat_lt (b.getD (4 * k + 2) 0).toNat_lt (b.getD (4 * k + 3) 0).toNat_lt]
      have d3' : Blk ((wr.drew).setCell ⟨w.heap.size + 2, k, none⟩ (.int .u32 ((xe4 b k : Nat) : Int))) (w.heap.size + 2) 356 (wvs (first (k + 1) b ++ zw (64 - (k + 1)))) := by
        have := (Blk.drew d3).setw (i := k) (n := xe4 b k); rwa [xr2 b k hlt] at this
      have d1' := (Blk.drew d1).far (p := ⟨w.heap.size + 2, k, none⟩) (by simp) (.int .u32 ((xe4 b k : Nat) : Int)); have d2' := (Blk.drew d2).far (p := ⟨w.heap.size + 2, k, none⟩) (by simp) (.int .u32 ((xe4 b k : Nat) : Int)); have d4' := (Below.drew d4).setCell (p := ⟨w.heap.size + 2, k, none⟩) (by simp) (.int .u32 ((xe4 b k : Nat) : Int)); refine Xg ?_; clear hK; refine X9 ?_; go_wp2_with fail; go_roundw
      case rel => exact ⟨k + 1, by omega, by go_num, d1', d2', d3', d4'⟩
      case measure => simp only [intOf]; omega
    · obtain rfl : k = 16 := by omega
      clear hlt hk c1 c2 c3 c4 w0; go_wp2_with fail
      go_loopw [5] (fun i wr => ∃ (t : Nat) (cur : List Nat), 16 ≤ t ∧ t ≤ 64 ∧ i = .int .i64 (t : Int) ∧ Hid (cur.length = t) ∧ Hid (ext (64 - t) cur = sb) ∧ (∀ x ∈ cur, x < 4294967296) ∧
        Blk wr (w.heap.size + 1) 356 (wvs (zw 64)) ∧ Blk wr (w.heap.size + 2) 356 (wvs (cur ++ zw (64 - t))) ∧ Below w.heap.size w wr) (fun i _ => 64 - (intOf i).toNat)
      case atStart => exact ⟨16, first 16 b, by omega, by omega, by go_num, hZ (xdg _ _), hZ HSE.out.symm, first_lt _ _, d2, d3, d4⟩
      case round =>
        clear d1 d2 d3 d4; obtain ⟨t, cur, h16, h64, rfl, HC, HE, hlt, d2, d3, d4⟩ := hrel; by_cases htl : t < 64
        · skip
          obtain ⟨x, hx⟩ : ∃ x, x = cur.getD (t - 2) 0 := ⟨_, rfl⟩; obtain ⟨y, hy⟩ : ∃ x, x = cur.getD (t - 15) 0 := ⟨_, rfl⟩; obtain ⟨p, hp⟩ : ∃ x, x = cur.getD (t - 7) 0 := ⟨_, rfl⟩; obtain ⟨q, hq⟩ : ∃ x, x = cur.getD (t - 16) 0 := ⟨_, rfl⟩; have bx : x < 4294967296 := by rw [hx]; exact xgq _ _ hlt
          have by_ : y < 4294967296 := by rw [hy]; exact xgq _ _ hlt
          have ex : Hid ((cur ++ zw (64 - t))[t - 2]? = some x) := hZ (by rw [hx]; exact xi0 _ _ _ (by rw [HC.out]; omega)); have ey : Hid ((cur ++ zw (64 - t))[t - 15]? = some y) := hZ (by rw [hy]; exact xi0 _ _ _ (by rw [HC.out]; omega)); have ep : Hid ((cur ++ zw (64 - t))[t - 7]? = some p) := hZ (by rw [hp]; exact xi0 _ _ _ (by rw [HC.out]; omega)); have eq : Hid ((cur ++ zw (64 - t))[t - 16]? = some q) := hZ (by rw [hq]; exact xi0 _ _ _ (by rw [HC.out]; omega)); have HN : Hid (nw cur = ad (ad (ad (sg1 x) p) (sg0 y)) q) := hZ (by unfold nw; rw [HC.out, hx, hy, hp, hq])
          have hlt' : ∀ z ∈ cur ++ [nw cur], z < 4294967296 := by
            intro z hz; rcases List.mem_append.1 hz with hz | hz
            · exact hlt z hz
            · rw [List.mem_singleton.1 hz]; exact xa8 _ _
          have HE' : Hid (ext (64 - (t + 1)) (cur ++ [nw cur]) = sb) := hZ (by rw [← xm6, show 64 - (t + 1) + 1 = 64 - t by omega]; exact HE.out); have HC' : Hid ((cur ++ [nw cur]).length = t + 1) := hZ (by rw [List.length_append, HC.out]; rfl); have HS : Hid ((cur ++ zw (64 - t)).set t (nw cur) = (cur ++ [nw cur]) ++ zw (64 - (t + 1))) := hZ (ext_set _ _ _ HC.out htl); have HLen : Hid (t < (wvs (cur ++ zw (64 - t))).length) := hZ (by rw [xag, List.length_append, HC.out, xb1]; omega); have X17 := fun u => hZ (xcr x 15 17 17 u bx (by decide +kernel) (by decide) rfl)
          have X19 := fun u => hZ (xcr x 13 19 19 u bx (by decide +kernel) (by decide) rfl)
          have Y7 := fun u => hZ (xcr y 25 7 7 u by_ (by decide +kernel) (by decide) rfl)
          have Y18 := fun u => hZ (xcr y 14 18 18 u by_ (by decide +kernel) (by decide) rfl)
          clear hx hy hp hq HE HC hlt; generalize nw cur = nn at *; generalize cur ++ zw (64 - t) = cc at *; generalize cur ++ [nn] = cn at *; go_upto_region 10 with fail; refine rB (fun W => W = wr.drew) [] [] [0, 1, 2, 3, 4, 5, 6, 7, 8, 9] 0 ?_; refine X3 ?_; have hS : (fun W => W = wr.drew) _ := rfl; refine X6 ?_; refine xab rfl rfl hS (fun W hW => xa7 _ _ rfl _ _ (((t - 2 : Nat) : Int)) rfl rfl (by omega) (by omega)) ?_; refine X5 ?_; refine Xd ?_; refine X5 ?_; refine xab rfl rfl hS (fun W hW => xaz w94 _ rfl _ _ _ _ _ rfl ((by subst hW; exact d3.drew)) (ex.out)) ?_; refine X8 ?_; refine xab rfl rfl hS (fun W hW => xa7 _ _ rfl _ _ (((t - 15 : Nat) : Int)) rfl rfl (by omega) (by omega)) ?_; refine X5 ?_; refine Xd ?_; refine X5 ?_; refine xab rfl rfl hS (fun W hW => xaz w94 _ rfl _ _ _ _ _ rfl ((by subst hW; exact d3.drew)) (ey.out)) ?_; refine X5 ?_
          refine X7 ?_; refine X9 ?_
          go_upto_region 13 with (first
            | ((with_reducible refine xat 61 ?_); refine xaa rfl _ (xcf _ _ rfl _ _ rfl rfl (by with_reducible repeat' first | assumption | exact xa8 _ _ | exact xa0 _ | exact xao _ | exact xap _ | refine xal ?_ ?_ | refine xas ?_ ?_ | refine xam ?_ | refine xar _ _ ?_ | refine xan _ ?_) (by with_reducible repeat' first | assumption | exact xa8 _ _ | exact xa0 _ | exact xao _ | exact xap _ | refine xal ?_ ?_ | refine xas ?_ ?_ | refine xam ?_ | refine xar _ _ ?_ | refine xan _ ?_)) ?_)
            | ((with_reducible refine xat 63 ?_); refine xaa rfl _ (xk0 _ _ rfl _ 10 _ rfl rfl (by decide) 1024 rfl) ?_)
            | ((with_reducible refine xat 64 ?_); refine xaa rfl _ (xcf _ _ rfl _ _ rfl rfl (by with_reducible repeat' first | assumption | exact xa8 _ _ | exact xa0 _ | exact xao _ | exact xap _ | refine xal ?_ ?_ | refine xas ?_ ?_ | refine xam ?_ | refine xar _ _ ?_ | refine xan _ ?_) (by with_reducible repeat' first | assumption | exact xa8 _ _ | exact xa0 _ | exact xao _ | exact xap _ | refine xal ?_ ?_ | refine xas ?_ ?_ | refine xam ?_ | refine xar _ _ ?_ | refine xan _ ?_)) ?_)
            | ((with_reducible refine xat 69 ?_); refine xaa rfl _ (xcf _ _ rfl _ _ rfl rfl (by with_reducible repeat' first | assumption | exact xa8 _ _ | exact xa0 _ | exact xao _ | exact xap _ | refine xal ?_ ?_ | refine xas ?_ ?_ | refine xam ?_ | refine xar _ _ ?_ | refine xan _ ?_) (by with_reducible repeat' first | assumption | exact xa8 _ _ | exact xa0 _ | exact xao _ | exact xap _ | refine xal ?_ ?_ | refine xas ?_ ?_ | refine xam ?_ | refine xar _ _ ?_ | refine xan _ ?_)) ?_)
            | ((with_reducible refine xat 71 ?_); refine xaa rfl _ (xk0 _ _ rfl _ 3 _ rfl rfl (by decide) 8 rfl) ?_)
            | ((with_reducible refine xat 72 ?_); refine xaa rfl _ (xcf _ _ rfl _ _ rfl rfl (by with_reducible repeat' first | assumption | exact xa8 _ _ | exact xa0 _ | exact xao _ | exact xap _ | refine xal ?_ ?_ | refine xas ?_ ?_ | refine xam ?_ | refine xar _ _ ?_ | refine xan _ ?_) (by with_reducible repeat' first | assumption | exact xa8 _ _ | exact xa0 _ | exact xao _ | exact xap _ | refine xal ?_ ?_ | refine xas ?_ ?_ | refine xam ?_ | refine xar _ _ ?_ | refine xan _ ?_)) ?_)
            | (go_at_call 246; with_reducible refine (X17 _).out.mono ?_; rintro e _ ⟨rfl, rfl⟩)
            | (go_at_call 246; with_reducible refine (X19 _).out.mono ?_; rintro e _ ⟨rfl, rfl⟩)
            | (go_at_call 246; with_reducible refine (Y7 _).out.mono ?_; rintro e _ ⟨rfl, rfl⟩)
            | (go_at_call 246; with_reducible refine (Y18 _).out.mono ?_; rintro e _ ⟨rfl, rfl⟩))
          refine rB (fun W => W = wr.drew.drew) [15] [15] [0, 1, 2, 3, 4, 5, 6, 7, 8, 9, 10, 11, 12, 13, 14, 15] 0 ?_; refine X3 ?_; have hS2 : (fun W => W = wr.drew.drew) _ := rfl; refine Xh ?_; refine Xi ?_; refine Xj ?_; refine xab rfl rfl hS2 (fun W hW => xa7 _ _ rfl _ _ (((t - 7 : Nat) : Int)) rfl rfl (by omega) (by omega)) ?_; refine X5 ?_; refine Xk ?_; refine X5 ?_; refine xab rfl rfl hS2 (fun W hW => xaz w94 _ rfl _ _ _ _ _ rfl ((by subst hW; exact d3.drew.drew)) (ep.out)) ?_; refine X5 ?_; refine Xl ?_; refine Xj ?_; refine Xl ?_; refine Xj ?_; refine xab rfl rfl hS2 (fun W hW => xa7 _ _ rfl _ _ (((t - 16 : Nat) : Int)) rfl rfl (by omega) (by omega)) ?_; refine X5 ?_; refine Xk ?_; refine X5 ?_; refine xab rfl rfl hS2 (fun W hW => xaz w94 _ rfl _ _ _ _ _ rfl ((by subst hW; exact d3.drew.drew)) (eq.out)) ?_; refine X5 ?_; refine Xl ?_; refine X5 ?_
          refine Xk ?_; refine Xf ?_; intro K hK; refine xb9 one94 _ _ rfl _ _ _ _ _ rfl rfl rfl d3.drew.drew HLen.out ?_
          have d3' : Blk ((wr.drew.drew).setCell ⟨w.heap.size + 2, t, none⟩ (.int .u32 ((nn : Nat) : Int))) (w.heap.size + 2) 356 (wvs (cn ++ zw (64 - (t + 1)))) := by
            have := (Blk.drew (Blk.drew d3)).setw (i := t) (n := nn); rwa [HS.out] at this
          have d2' := (Blk.drew (Blk.drew d2)).far (p := ⟨w.heap.size + 2, t, none⟩) (by simp) (.int .u32 ((nn : Nat) : Int)); have d4' := (Below.drew (Below.drew d4)).setCell (p := ⟨w.heap.size + 2, t, none⟩) (by simp) (.int .u32 ((nn : Nat) : Int)); rw [show ad (ad (ad (rotr x 17 ^^^ rotr x 19 ^^^ x / 1024) p) (rotr y 7 ^^^ rotr y 18 ^^^ y / 8)) q = nn from HN.out.symm]; refine Xg ?_; clear hK; refine X9 ?_; go_wp2_with fail; go_roundw
          case rel => exact ⟨t + 1, by omega, by omega, by go_num, cn, HC', HE', hlt', d2', d3', d4'⟩
          case measure => simp only [intOf]; omega
        · obtain rfl : t = 64 := by omega
          have HE2 : Hid (cur = sb) := hZ (by have h := HE.out; rw [Nat.sub_self, ext_zero] at h; exact h)
          have d3' : Blk wr (w.heap.size + 2) 356 (wvs sb) := by
            rw [Nat.sub_self, HE2.out, show zw 0 = [] from rfl, List.append_nil] at d3; exact d3
          clear HE HE2 HC hlt d3 HSE
          go_wp2_with (first
            | ((with_reducible refine xat 88 ?_); refine xaa rfl _ (xa6 at176 (.tmp 3) rfl _ 356 (wvs sb) rfl d3' (by rw [xag]; exact HS64.out)) ?_)
            | ((with_reducible refine xej (Op.store 356 (.tmp 2) (.tmp 88)) ?_); refine xak at176.i rfl (.tmp 2) (.tmp 88) rfl (w.heap.size + 1) 0 356 (wvs (zw 64)) (wvs sb) rfl rfl d2 (by rw [xag]; exact HS64.out) (by rw [xag, xb1]; omega) (xdr _) ?_; intro w1 hb1 hg1 hs1))
          refine Xa ?_; rw [xbh _ _ (by rw [xag, xag, xb1]; exact HS64.out.symm)] at hb1; refine bodyPost_ret (xb3 rfl at176 _ _ (w.heap.size + 1) 356 (wvs sb) rfl hb1 (by rw [xag]; exact HS64.out)) rfl ?_; exact ⟨rfl, d4.grown hg1 d4.size (by intro k hk; cases hk; omega)⟩
theorem xo8 (h : List Nat) (b : List UInt8) (hh : h.length = 8) : ∃ (a0 a1 a2 a3 a4 a5 a6 a7 : Nat) (R : List Nat), h = [a0, a1, a2, a3, a4, a5, a6, a7] ∧ R.length = 8 ∧ step h b = List.zipWith ad h R ∧ rnds shaK (xfj b) a0 a1 a2 a3 a4 a5 a6 a7 = R := by
  obtain ⟨a0, a1, a2, a3, a4, a5, a6, a7, rfl⟩ := eight hh; exact ⟨a0, a1, a2, a3, a4, a5, a6, a7, _, rfl, xik _ _ _ _ _ _ _ _ _ _, xlq _ _ _ _ _ _ _ _ b, rfl⟩
theorem two_rows (u : World) : Blk ((u.alloc (.cells (wvs (zw 64)).toArray 356)).alloc (.cells (wvs (zw 64)).toArray 356)) u.heap.size 356 (wvs (zw 64)) ∧ Blk ((u.alloc (.cells (wvs (zw 64)).toArray 356)).alloc (.cells (wvs (zw 64)).toArray 356)) (u.heap.size + 1) 356 (wvs (zw 64)) ∧
    Below u.heap.size u ((u.alloc (.cells (wvs (zw 64)).toArray 356)).alloc (.cells (wvs (zw 64)).toArray 356)) := by
  refine ⟨(Blk.new _ _ _).alloc _, ?_, ((Below.refl _ _).alloc (Nat.le_refl _) _).alloc (by simp) _⟩; have := Blk.new (u.alloc (.cells (wvs (zw 64)).toArray 356)) 356 (wvs (zw 64)); rwa [show (u.alloc (.cells (wvs (zw 64)).toArray 356)).heap.size = u.heap.size + 1 by simp] at this
theorem step_any (h : List Nat) (b : List UInt8) (w : World) (hh : h.length = 8) (hlt : ∀ x ∈ h, x < 4294967296) (hl : b.length = 64) :
    Calls Tryz.prog 216 #[arrW h, arr8 b] w fun e w' => e = .returned (arrW (step h b)) ∧ Below w.heap.size w w' := by
  have HL := hZ hl; have HH := hZ hh; have b1 : Blk (w.alloc (.cells (wvs h).toArray 320)) w.heap.size 320 (wvs h) := Blk.new _ _ _
  have b2 : Blk ((w.alloc (.cells (wvs h).toArray 320)).alloc (.cells (bvs b).toArray 322)) (w.heap.size + 1) 322 (bvs b) := by
    have := Blk.new (w.alloc (.cells (wvs h).toArray 320)) 322 (bvs b); rwa [show (w.alloc (.cells (wvs h).toArray 320)).heap.size = w.heap.size + 1 by simp] at this
  have b3 : Blk (((w.alloc (.cells (wvs h).toArray 320)).alloc (.cells (bvs b).toArray 322)).alloc (.cells (wvs (zw 8)).toArray 320)) (w.heap.size + 2) 320 (wvs (zw 8)) := by
    have := Blk.new ((w.alloc (.cells (wvs h).toArray 320)).alloc (.cells (bvs b).toArray 322)) 320 (wvs (zw 8)); rwa [show ((w.alloc (.cells (wvs h).toArray 320)).alloc (.cells (bvs b).toArray 322)).heap.size = w.heap.size + 2 by simp] at this
  have hall := And.intro ((b1.alloc (.cells (bvs b).toArray 322)).alloc (.cells (wvs (zw 8)).toArray 320)) (And.intro (b2.alloc (.cells (wvs (zw 8)).toArray 320)) (And.intro b3
    ((((Below.refl w.heap.size w).alloc (Nat.le_refl _) (.cells (wvs h).toArray 320)).alloc (by simp) (.cells (bvs b).toArray 322)).alloc (by simp; omega) (.cells (wvs (zw 8)).toArray 320))))
  have C1 := fun u => hZ (xlu b u hl)
  have C2 := fun u => hZ (xki u)
  have HP := hZ (xo8 h b hh); have HWL := hZ (xd3 b); have HKL := hZ xfi; have HAT := hZ (rnds_at (xfj b) (xd3 b)); have HEN := hZ (rnds_end (xfj b) (xd3 b)); have HG := hZ hlt; clear b1 b2 b3 hl hh hlt; generalize step h b = res at *; generalize xfj b = ws at *; obtain ⟨ks, hks⟩ : ∃ ks, ks = shaK := ⟨_, rfl⟩; rw [← hks] at HP HKL HAT HEN; rw [← hks] at C2; clear hks; unfold arr8 arrW at *; go_enter Tryz.func216, Tryz.ntmps216; go_upto_region 1 with fail; generalize hW : World.alloc (World.alloc (World.alloc w _) _) _ = w0; have h3 : Blk w0 w.heap.size 320 (wvs h) ∧ Blk w0 (w.heap.size + 1) 322 (bvs b) ∧ Blk w0 (w.heap.size + 2) 320 (wvs (zw 8)) ∧ Below w.heap.size w w0 := by rw [← hW]; exact hall
  clear hall hW; obtain ⟨c1, c2, c3, c4⟩ := h3; have A := fun u => hZ (two_rows u)
  go_upto_region 2 with (first
    | ((with_reducible refine xat 14 ?_); refine xaa rfl _ (xa6 at97 (.tmp 3) rfl _ 322 (bvs b) rfl c2 (by rw [xae]; exact HL.out)) ?_)
    | (go_at_call 244; with_reducible refine (C1 _).out.mono ?_; rintro e w1 ⟨rfl, hw1⟩)
    | (go_at_call 245; with_reducible refine (C2 _).out.mono ?_; rintro e w2 ⟨rfl, hw2⟩)
    | ((with_reducible refine xej (Op.store 356 (.tmp 5) (.tmp 15)) ?_); refine xak at176.i rfl (.tmp 5) (.tmp 15) rfl w2.heap.size 0 356 (wvs (zw 64)) (wvs ws) rfl rfl (A w2).out.1 (by rw [xag]; exact HWL.out) (by rw [xag, xb1]; omega) (xdr _) ?_; intro w3 hb3 hg3 hs3)
    | ((with_reducible refine xej (Op.store 356 (.tmp 6) (.tmp 16)) ?_); refine xak at176.i rfl (.tmp 6) (.tmp 16) rfl (w2.heap.size + 1) 0 356 (wvs (zw 64)) (wvs ks) rfl rfl ((A w2).out.2.1.grown hg3 (by simp)) (by rw [xag]; exact HKL.out) (by rw [xag, xb1]; omega) (xdr _) ?_; intro w4 hb4 hg4 hs4))
  have hB : Below w0.heap.size w0 w2 := hw1.trans (hw2.mono hw1.size); have hB2 : Below w0.heap.size w0 ((w2.alloc (.cells (wvs (zw 64)).toArray 356)).alloc (.cells (wvs (zw 64)).toArray 356)) := hB.trans ((A w2).out.2.2.mono hB.size); have hB3 : Below w0.heap.size w0 w3 := hB2.grown hg3 hB2.size (by intro k hk; cases hk; exact hB.size); have hB4 : Below w0.heap.size w0 w4 := hB3.grown hg4 hB3.size (by intro k hk; cases hk; have := hB.size; omega); have hs0 : w0.heap.size ≤ w2.heap.size := hB.size; have hs24 : w2.heap.size + 2 ≤ w4.heap.size := by rw [hs4, hs3]; simp
  have l1 := c1.lt; have l3 := c3.lt; have d1 := c1.below hB4 c1.lt; have d3 := c3.below hB4 c3.lt
  have d5 : Blk w4 w2.heap.size 356 (wvs ws) := by
    rw [xbh _ _ (by rw [xag, xag, xb1, HWL.out])] at hb3; exact hb3.grown hg4 (by simp)
  have d6 : Blk w4 (w2.heap.size + 1) 356 (wvs ks) := by rwa [xbh _ _ (by rw [xag, xag, xb1, HKL.out])] at hb4
  have d0 : Below w.heap.size w w4 := c4.trans (hB4.mono c4.size); clear hB hB2 hB3 hB4 hb3 hb4 hg3 hg4 hs3 hs4 hw1 hw2 c1 c2 c3 c4 C1 C2 A; obtain ⟨a0, a1, a2, a3, a4, a5, a6, a7, R, hp1, hp2, hp3, hp4⟩ := HP.out; clear HP; have HR2 := hZ hp2; have HR3 := hZ hp3; have HR4 : Hid (rnds (ks.drop 0) (ws.drop 0) a0 a1 a2 a3 a4 a5 a6 a7 = R) := hZ (by rw [List.drop_zero, List.drop_zero]; exact hp4); have HI := hZ hp1; clear hp1 hp2 hp3 hp4; generalize w2.heap.size = n2 at *; have b7 : Blk (w4.alloc (.cells (wvs (zw 8)).toArray 320)) w4.heap.size 320 (wvs (zw 8)) := Blk.new _ _ _
  go_upto_region 3 with (first
    | ((with_reducible refine xat 17 ?_); refine xaa rfl _ (xa6 at96 (.tmp 2) rfl _ 320 (wvs h) rfl d1 (by rw [xag]; exact HH.out)) ?_)
    | ((with_reducible refine xej (Op.store 320 (.tmp 7) (.tmp 17)) ?_); refine xak at96.i rfl (.tmp 7) (.tmp 17) rfl w4.heap.size 0 320 (wvs (zw 8)) (wvs h) rfl rfl b7 (by rw [xag]; exact HH.out) (by rw [xag, xb1]; omega) (xdr _) ?_; intro w5 hb5 hg5 hs5))
  rw [xbh _ _ (by rw [xag, xag, xb1, HH.out])] at hb5; have e1 := (d1.alloc (.cells (wvs (zw 8)).toArray 320)).grown hg5 (by simp; omega); have e3 := (d3.alloc (.cells (wvs (zw 8)).toArray 320)).grown hg5 (by simp; omega); have e5 := (d5.alloc (.cells (wvs (zw 8)).toArray 320)).grown hg5 (by simp; omega); have e6 := (d6.alloc (.cells (wvs (zw 8)).toArray 320)).grown hg5 (by simp; omega); have e0 : Below w.heap.size w w5 := (d0.alloc d0.size (.cells (wvs (zw 8)).toArray 320)).grown hg5 (by have := d0.size; simp; omega) (by intro k hk; cases hk; exact d0.size); have hz : w.heap.size + 2 < n2 := by omega
  have hz2 : n2 + 2 ≤ w4.heap.size := hs24; generalize w4.heap.size = n4 at *; clear d1 d3 d5 d6 d0 b7 hg5 hs5 l1 l3 hs0 hs24 w0 w1 w3 w4; rw [HI.out] at hb5; go_wp2_with fail
  go_loopw [18] (fun i wr => ∃ (t a b c d e f g k : Nat), t ≤ 64 ∧ i = .int .i64 (t : Int) ∧ (a < 4294967296 ∧ b < 4294967296 ∧ c < 4294967296 ∧ d < 4294967296 ∧ e < 4294967296 ∧ f < 4294967296 ∧ g < 4294967296 ∧ k < 4294967296) ∧
    Hid (rnds (ks.drop t) (ws.drop t) a b c d e f g k = R) ∧ Blk wr w.heap.size 320 (wvs h) ∧ Blk wr (w.heap.size + 2) 320 (wvs (zw 8)) ∧ Blk wr n2 356 (wvs ws) ∧ Blk wr (n2 + 1) 356 (wvs ks) ∧ Blk wr n4 320 (wvs [a, b, c, d, e, f, g, k]) ∧ Below w.heap.size w wr) (fun i _ => 64 - (intOf i).toNat)
  case atStart =>
    have hg8 := HG.out; rw [HI.out] at hg8; simp only [List.mem_cons, List.not_mem_nil, or_false, forall_eq_or_imp, forall_eq] at hg8; exact ⟨0, a0, a1, a2, a3, a4, a5, a6, a7, by omega, by go_num, hg8, HR4, e1, e3, e5, e6, hb5, e0⟩
  case round =>
    clear e0 e1 e3 e5 e6 hb5 HR4 w5; obtain ⟨t, a, x1, x2, x3, e, x5, x6, x7, ht, rfl, ⟨l0, l1, l2, l3, l4, l5, l6, l7⟩, HR, g1, g3, g5, g6, g7, g0⟩ := hrel; by_cases htl : t < 64
    · have ht0 : (t : Int) < 64 := by omega
      obtain ⟨kt, hkt⟩ : ∃ kt, kt = ks.getD t 0 := ⟨_, rfl⟩; obtain ⟨wt, hwt⟩ : ∃ wt, wt = ws.getD t 0 := ⟨_, rfl⟩; have ek : Hid (ks[t]? = some kt) := hZ (by rw [hkt]; exact xf0 _ _ (by rw [HKL.out]; exact htl)); have ew : Hid (ws[t]? = some wt) := hZ (by rw [hwt]; exact xf0 _ _ (by rw [HWL.out]; exact htl)); obtain ⟨on, hon⟩ : ∃ on, on = one e x5 x6 x7 kt wt := ⟨_, rfl⟩; obtain ⟨tw, htw⟩ : ∃ tw, tw = two a x1 x2 := ⟨_, rfl⟩
      have HR' : Hid (rnds (ks.drop (t + 1)) (ws.drop (t + 1)) (ad on tw) a x1 x2 (ad x3 on) e x5 x6 = R) := hZ (by
        rw [hon, htw, hkt, hwt, ← HAT.out t htl]; exact HR.out)
      have HON := hZ hon; have HTW := hZ htw; clear hkt hwt hon htw HR HAT HEN; have E6 := fun u => hZ (xcr e 26 6 6 u l4 (by decide +kernel) (by decide) rfl)
      have E11 := fun u => hZ (xcr e 21 11 11 u l4 (by decide +kernel) (by decide) rfl)
      have E25 := fun u => hZ (xcr e 7 25 25 u l4 (by decide +kernel) (by decide) rfl)
      have A2 := fun u => hZ (xcr a 30 2 2 u l0 (by decide +kernel) (by decide) rfl)
      have A13 := fun u => hZ (xcr a 19 13 13 u l0 (by decide +kernel) (by decide) rfl)
      have A22 := fun u => hZ (xcr a 10 22 22 u l0 (by decide +kernel) (by decide) rfl)
      go_upto_region 6 with fail; refine rB (fun W => W = wr.drew) [] [] [0, 1, 2, 3, 4, 5] 0 ?_; refine X3 ?_; have hS : (fun W => W = wr.drew) _ := rfl; refine xab rfl rfl hS (fun W hW => xbw ia96 _ _ rfl _ 0 _ rfl rfl (by decide)) ?_; refine X5 ?_; refine xab rfl rfl hS (fun W hW => xaz w94 _ rfl _ _ _ _ _ rfl ((by subst hW; exact g7.drew)) (rfl)) ?_; refine X5 ?_; refine xab rfl rfl hS (fun W hW => xbw ia96 _ _ rfl _ 4 _ rfl rfl (by decide)) ?_; refine X5 ?_; refine xab rfl rfl hS (fun W hW => xaz w94 _ rfl _ _ _ _ _ rfl ((by subst hW; exact g7.drew)) (rfl)) ?_; refine X5 ?_; refine X7 ?_; refine X9 ?_; go_upto_region 7 with fail; refine rB (fun W => W = wr.drew.drew) [] [3, 5, 8] [0, 1, 2, 4, 7, 11, 12, 13, 14, 15, 16, 17, 18, 19, 20, 22, 23, 24, 26, 27, 28, 3, 5, 6, 8, 9, 10, 21, 25, 29, 30] 0 ?_; refine X3 ?_
      have hS2 : (fun W => W = wr.drew.drew) _ := rfl; refine xab rfl rfl hS2 (fun W hW => xbw ia96 _ _ rfl _ 7 _ rfl rfl (by decide)) ?_; refine X5 ?_; refine xab rfl rfl hS2 (fun W hW => xaz w94 _ rfl _ _ _ _ _ rfl ((by subst hW; exact g7.drew.drew)) (rfl)) ?_; refine Xi ?_; refine Xi ?_; refine Xi ?_; refine Xj ?_; refine xab rfl rfl hS2 (fun W hW => xbw ia96 _ _ rfl _ 5 _ rfl rfl (by decide)) ?_; refine X5 ?_; refine xab rfl rfl hS2 (fun W hW => xaz w94 _ rfl _ _ _ _ _ rfl ((by subst hW; exact g7.drew.drew)) (rfl)) ?_; refine X5 ?_
      refine xab rfl rfl hS2 (fun W hW => xeu _ _ rfl _ _ rfl rfl (by with_reducible repeat' first | assumption | exact xa8 _ _ | exact xa0 _ | exact xao _ | exact xap _ | refine xal ?_ ?_ | refine xas ?_ ?_ | refine xam ?_ | refine xar _ _ ?_ | refine xan _ ?_) (by with_reducible repeat' first | assumption | exact xa8 _ _ | exact xa0 _ | exact xao _ | exact xap _ | refine xal ?_ ?_ | refine xas ?_ ?_ | refine xam ?_ | refine xar _ _ ?_ | refine xan _ ?_)) ?_; refine Xj ?_; refine xab rfl rfl hS2 (fun W hW => xrr _ rfl _ rfl (by with_reducible repeat' first | assumption | exact xa8 _ _ | exact xa0 _ | exact xao _ | exact xap _ | refine xal ?_ ?_ | refine xas ?_ ?_ | refine xam ?_ | refine xar _ _ ?_ | refine xan _ ?_)) ?_; refine X5 ?_
      refine xab rfl rfl hS2 (fun W hW => xbw ia96 _ _ rfl _ 6 _ rfl rfl (by decide)) ?_; refine X5 ?_; refine xab rfl rfl hS2 (fun W hW => xaz w94 _ rfl _ _ _ _ _ rfl ((by subst hW; exact g7.drew.drew)) (rfl)) ?_; refine X5 ?_; refine xab rfl rfl hS2 (fun W hW => xeu _ _ rfl _ _ rfl rfl (by with_reducible repeat' first | assumption | exact xa8 _ _ | exact xa0 _ | exact xao _ | exact xap _ | refine xal ?_ ?_ | refine xas ?_ ?_ | refine xam ?_ | refine xar _ _ ?_ | refine xan _ ?_) (by with_reducible repeat' first | assumption | exact xa8 _ _ | exact xa0 _ | exact xao _ | exact xap _ | refine xal ?_ ?_ | refine xas ?_ ?_ | refine xam ?_ | refine xar _ _ ?_ | refine xan _ ?_)) ?_; refine X5 ?_
      refine xab rfl rfl hS2 (fun W hW => xcf _ _ rfl _ _ rfl rfl (by with_reducible repeat' first | assumption | exact xa8 _ _ | exact xa0 _ | exact xao _ | exact xap _ | refine xal ?_ ?_ | refine xas ?_ ?_ | refine xam ?_ | refine xar _ _ ?_ | refine xan _ ?_) (by with_reducible repeat' first | assumption | exact xa8 _ _ | exact xa0 _ | exact xao _ | exact xap _ | refine xal ?_ ?_ | refine xas ?_ ?_ | refine xam ?_ | refine xar _ _ ?_ | refine xan _ ?_)) ?_; refine Xj ?_; refine Xk ?_; refine X5 ?_; refine xab rfl rfl hS2 (fun W hW => xaz w94 _ rfl _ _ _ _ _ rfl ((by subst hW; exact g6.drew.drew)) (ek.out)) ?_; refine Xj ?_; refine Xk ?_; refine X5 ?_; refine xab rfl rfl hS2 (fun W hW => xaz w94 _ rfl _ _ _ _ _ rfl ((by subst hW; exact g5.drew.drew)) (ew.out)) ?_; refine X5 ?_
      refine xc7 rfl rfl ?_; intro K hK; go_simp; (with_reducible refine (E6 _).out.mono ?_); rintro y _ ⟨rfl, rfl⟩; refine hK _ _ (fun _ => hS2) ?_; clear hK; refine xc7 rfl rfl ?_; intro K hK; go_simp; (with_reducible refine (E11 _).out.mono ?_); rintro y _ ⟨rfl, rfl⟩; refine hK _ _ (fun _ => hS2) ?_; clear hK; refine xab rfl rfl hS2 (fun W hW => xcf _ _ rfl _ _ rfl rfl (by with_reducible repeat' first | assumption | exact xa8 _ _ | exact xa0 _ | exact xao _ | exact xap _ | refine xal ?_ ?_ | refine xas ?_ ?_ | refine xam ?_ | refine xar _ _ ?_ | refine xan _ ?_) (by with_reducible repeat' first | assumption | exact xa8 _ _ | exact xa0 _ | exact xao _ | exact xap _ | refine xal ?_ ?_ | refine xas ?_ ?_ | refine xam ?_ | refine xar _ _ ?_ | refine xan _ ?_)) ?_; refine X5 ?_
      refine xc7 rfl rfl ?_; intro K hK; go_simp; (with_reducible refine (E25 _).out.mono ?_); rintro y _ ⟨rfl, rfl⟩; refine hK _ _ (fun _ => hS2) ?_; clear hK; refine xab rfl rfl hS2 (fun W hW => xcf _ _ rfl _ _ rfl rfl (by with_reducible repeat' first | assumption | exact xa8 _ _ | exact xa0 _ | exact xao _ | exact xap _ | refine xal ?_ ?_ | refine xas ?_ ?_ | refine xam ?_ | refine xar _ _ ?_ | refine xan _ ?_) (by with_reducible repeat' first | assumption | exact xa8 _ _ | exact xa0 _ | exact xao _ | exact xap _ | refine xal ?_ ?_ | refine xas ?_ ?_ | refine xam ?_ | refine xar _ _ ?_ | refine xan _ ?_)) ?_; refine X5 ?_; refine Xl ?_; refine X5 ?_; refine Xl ?_; refine X5 ?_; refine Xl ?_; refine X5 ?_; refine Xl ?_; refine Xi ?_; refine Xm ?_
      rw [show ad (ad (ad (ad x7 (rotr e 6 ^^^ rotr e 11 ^^^ rotr e 25)) ((e &&& x5) ^^^ ((4294967295 - e) &&& x6))) kt) wt = on from HON.out.symm]; go_upto_region 8 with fail; refine rB (fun W => W = wr.drew.drew.drew) [] [1, 3, 6] [0, 2, 5, 8, 9, 10, 11, 12, 13, 14, 15, 16, 17, 18, 19, 20, 21, 22, 1, 3, 4, 6, 7, 23, 24] 0 ?_; refine X3 ?_; have hS3 : (fun W => W = wr.drew.drew.drew) _ := rfl; refine Xn ?_; refine X5 ?_; refine Xn ?_; refine X5 ?_; refine Xn ?_; refine X5 ?_; refine Xn ?_; refine Xo ?_; refine X5 ?_; refine xab rfl rfl hS3 (fun W hW => xaz w94 _ rfl _ _ _ _ _ rfl ((by subst hW; exact g7.drew.drew.drew)) (rfl)) ?_; refine X5 ?_
      refine xab rfl rfl hS3 (fun W hW => xeu _ _ rfl _ _ rfl rfl (by with_reducible repeat' first | assumption | exact xa8 _ _ | exact xa0 _ | exact xao _ | exact xap _ | refine xal ?_ ?_ | refine xas ?_ ?_ | refine xam ?_ | refine xar _ _ ?_ | refine xan _ ?_) (by with_reducible repeat' first | assumption | exact xa8 _ _ | exact xa0 _ | exact xao _ | exact xap _ | refine xal ?_ ?_ | refine xas ?_ ?_ | refine xam ?_ | refine xar _ _ ?_ | refine xan _ ?_)) ?_; refine X5 ?_; refine Xn ?_; refine Xp ?_; refine X5 ?_; refine xab rfl rfl hS3 (fun W hW => xaz w94 _ rfl _ _ _ _ _ rfl ((by subst hW; exact g7.drew.drew.drew)) (rfl)) ?_; refine X5 ?_
      refine xab rfl rfl hS3 (fun W hW => xeu _ _ rfl _ _ rfl rfl (by with_reducible repeat' first | assumption | exact xa8 _ _ | exact xa0 _ | exact xao _ | exact xap _ | refine xal ?_ ?_ | refine xas ?_ ?_ | refine xam ?_ | refine xar _ _ ?_ | refine xan _ ?_) (by with_reducible repeat' first | assumption | exact xa8 _ _ | exact xa0 _ | exact xao _ | exact xap _ | refine xal ?_ ?_ | refine xas ?_ ?_ | refine xam ?_ | refine xar _ _ ?_ | refine xan _ ?_)) ?_; refine X5 ?_
      refine xab rfl rfl hS3 (fun W hW => xcf _ _ rfl _ _ rfl rfl (by with_reducible repeat' first | assumption | exact xa8 _ _ | exact xa0 _ | exact xao _ | exact xap _ | refine xal ?_ ?_ | refine xas ?_ ?_ | refine xam ?_ | refine xar _ _ ?_ | refine xan _ ?_) (by with_reducible repeat' first | assumption | exact xa8 _ _ | exact xa0 _ | exact xao _ | exact xap _ | refine xal ?_ ?_ | refine xas ?_ ?_ | refine xam ?_ | refine xar _ _ ?_ | refine xan _ ?_)) ?_; refine Xo ?_; refine X5 ?_; refine xab rfl rfl hS3 (fun W hW => xaz w94 _ rfl _ _ _ _ _ rfl ((by subst hW; exact g7.drew.drew.drew)) (rfl)) ?_; refine Xp ?_; refine X5 ?_; refine xab rfl rfl hS3 (fun W hW => xaz w94 _ rfl _ _ _ _ _ rfl ((by subst hW; exact g7.drew.drew.drew)) (rfl)) ?_; refine X5 ?_
      refine xab rfl rfl hS3 (fun W hW => xeu _ _ rfl _ _ rfl rfl (by with_reducible repeat' first | assumption | exact xa8 _ _ | exact xa0 _ | exact xao _ | exact xap _ | refine xal ?_ ?_ | refine xas ?_ ?_ | refine xam ?_ | refine xar _ _ ?_ | refine xan _ ?_) (by with_reducible repeat' first | assumption | exact xa8 _ _ | exact xa0 _ | exact xao _ | exact xap _ | refine xal ?_ ?_ | refine xas ?_ ?_ | refine xam ?_ | refine xar _ _ ?_ | refine xan _ ?_)) ?_; refine X5 ?_
      refine xab rfl rfl hS3 (fun W hW => xcf _ _ rfl _ _ rfl rfl (by with_reducible repeat' first | assumption | exact xa8 _ _ | exact xa0 _ | exact xao _ | exact xap _ | refine xal ?_ ?_ | refine xas ?_ ?_ | refine xam ?_ | refine xar _ _ ?_ | refine xan _ ?_) (by with_reducible repeat' first | assumption | exact xa8 _ _ | exact xa0 _ | exact xao _ | exact xap _ | refine xal ?_ ?_ | refine xas ?_ ?_ | refine xam ?_ | refine xar _ _ ?_ | refine xan _ ?_)) ?_; refine X5 ?_; refine xc7 rfl rfl ?_; intro K hK; go_simp; (with_reducible refine (A2 _).out.mono ?_); rintro y _ ⟨rfl, rfl⟩; refine hK _ _ (fun _ => hS3) ?_; clear hK; refine xc7 rfl rfl ?_; intro K hK; go_simp; (with_reducible refine (A13 _).out.mono ?_); rintro y _ ⟨rfl, rfl⟩; refine hK _ _ (fun _ => hS3) ?_; clear hK
      refine xab rfl rfl hS3 (fun W hW => xcf _ _ rfl _ _ rfl rfl (by with_reducible repeat' first | assumption | exact xa8 _ _ | exact xa0 _ | exact xao _ | exact xap _ | refine xal ?_ ?_ | refine xas ?_ ?_ | refine xam ?_ | refine xar _ _ ?_ | refine xan _ ?_) (by with_reducible repeat' first | assumption | exact xa8 _ _ | exact xa0 _ | exact xao _ | exact xap _ | refine xal ?_ ?_ | refine xas ?_ ?_ | refine xam ?_ | refine xar _ _ ?_ | refine xan _ ?_)) ?_; refine X5 ?_; refine xc7 rfl rfl ?_; intro K hK; go_simp; (with_reducible refine (A22 _).out.mono ?_); rintro y _ ⟨rfl, rfl⟩; refine hK _ _ (fun _ => hS3) ?_; clear hK
      refine xab rfl rfl hS3 (fun W hW => xcf _ _ rfl _ _ rfl rfl (by with_reducible repeat' first | assumption | exact xa8 _ _ | exact xa0 _ | exact xao _ | exact xap _ | refine xal ?_ ?_ | refine xas ?_ ?_ | refine xam ?_ | refine xar _ _ ?_ | refine xan _ ?_) (by with_reducible repeat' first | assumption | exact xa8 _ _ | exact xa0 _ | exact xao _ | exact xap _ | refine xal ?_ ?_ | refine xas ?_ ?_ | refine xam ?_ | refine xar _ _ ?_ | refine xan _ ?_)) ?_; refine X5 ?_; refine xab rfl rfl hS3 (fun W hW => xev _ _ rfl _ _ rfl rfl) ?_; refine X5 ?_; refine Xn ?_; refine Xm ?_; rw [show ad (rotr a 2 ^^^ rotr a 13 ^^^ rotr a 22) ((a &&& x1) ^^^ (a &&& x2) ^^^ (x1 &&& x2)) = tw from HTW.out.symm]; have g7' := g7.drew.drew.drew
      go_wp2_with (first
        | ((with_reducible refine xat 81 ?_); refine xaa rfl _ (xev _ _ rfl _ _ rfl rfl) ?_)
        | ((with_reducible refine xat 83 ?_); refine xaa rfl _ (xbw ia96 _ _ rfl _ 1 _ rfl rfl (by decide)) ?_)
        | ((with_reducible refine xat 84 ?_); refine xaa rfl _ (xaz w94 _ rfl _ _ _ _ _ rfl ((g7')) (rfl)) ?_)
        | ((with_reducible refine xat 85 ?_); refine xaa rfl _ (xbw ia96 _ _ rfl _ 2 _ rfl rfl (by decide)) ?_)
        | ((with_reducible refine xat 86 ?_); refine xaa rfl _ (xaz w94 _ rfl _ _ _ _ _ rfl ((g7')) (rfl)) ?_)
        | ((with_reducible refine xat 87 ?_); refine xaa rfl _ (xbw ia96 _ _ rfl _ 3 _ rfl rfl (by decide)) ?_)
        | ((with_reducible refine xat 88 ?_); refine xaa rfl _ (xaz w94 _ rfl _ _ _ _ _ rfl ((g7')) (rfl)) ?_)
        | ((with_reducible refine xat 90 ?_); refine xaa rfl _ (xev _ _ rfl _ _ rfl rfl) ?_)
        | ((with_reducible refine xat 92 ?_); refine xaa rfl _ (xbw ia96 _ _ rfl _ 5 _ rfl rfl (by decide)) ?_)
        | ((with_reducible refine xat 93 ?_); refine xaa rfl _ (xaz w94 _ rfl _ _ _ _ _ rfl ((g7')) (rfl)) ?_)
        | ((with_reducible refine xat 94 ?_); refine xaa rfl _ (xbw ia96 _ _ rfl _ 6 _ rfl rfl (by decide)) ?_)
        | ((with_reducible refine xat 95 ?_); refine xaa rfl _ (xaz w94 _ rfl _ _ _ _ _ rfl ((g7')) (rfl)) ?_)
        | ((with_reducible refine xat 96 ?_); refine xaa rfl _ (xcu _ rfl (wvs [ad on tw, a, x1, x2, ad x3 on, e, x5, x6]).toArray (by kernel_rfl)) ?_)
        | ((with_reducible refine xej (Op.store 320 (.tmp 7) (.tmp 96)) ?_); refine xak at96.i rfl (.tmp 7) (.tmp 96) rfl n4 0 320 (wvs [a, x1, x2, x3, e, x5, x6, x7]) (wvs [ad on tw, a, x1, x2, ad x3 on, e, x5, x6]) rfl rfl g7' rfl (by rw [xag]; exact Nat.le_refl 8) (xdr _) ?_; intro w1 hb1 hg1 hs1))
      rw [xbh _ _ (by rw [xag, xag]; rfl)] at hb1; go_roundw
      case rel =>
        exact ⟨t + 1, ad on tw, a, x1, x2, ad x3 on, e, x5, x6, by omega, by go_num, ⟨xa8 _ _, l0, l1, l2, xa8 _ _, l4, l5, l6⟩, HR', g1.drew.drew.drew.grown hg1 (by simp; omega), g3.drew.drew.drew.grown hg1 (by simp; omega), g5.drew.drew.drew.grown hg1 (by simp; omega), g6.drew.drew.drew.grown hg1 (by simp; omega), hb1,
          (Below.drew (Below.drew (Below.drew g0))).grown hg1 g0.size (by intro k hk; cases hk; omega)⟩
      case measure => simp only [intOf]; omega
    · obtain rfl : t = 64 := by omega
      have HV : Hid ([a, x1, x2, x3, e, x5, x6, x7] = R) := hZ (by rw [← HEN.out]; exact HR.out); rw [HV.out] at g7; clear HV HR HAT HEN l0 l1 l2 l3 l4 l5 l6 l7 ht htl g5 g6; have HSET := hZ (fun (j : Nat) (hj : j < 8) => zipT_set h R j HH.out HR2.out hj); have HGET := hZ (fun (j : Nat) (hj : j < 8) => zipT_get h R j HH.out HR2.out hj); have HZL := hZ (fun (j : Nat) (hj : j ≤ 8) => xna h R j HH.out HR2.out hj); have HZE := hZ (zipT_end h R HH.out); have HZ0 := hZ (xrt h R); go_wp2_with fail
      go_loopw [98] (fun i wr => ∃ j : Nat, j ≤ 8 ∧ i = .int .i64 (j : Int) ∧ Blk wr w.heap.size 320 (wvs (zipT h R j)) ∧ Blk wr (w.heap.size + 2) 320 (wvs (zw 8)) ∧ Blk wr n4 320 (wvs R) ∧ Below w.heap.size w wr) (fun i _ => 8 - (intOf i).toNat)
      case atStart => exact ⟨0, by omega, by go_num, by rw [HZ0.out]; exact g1, g3, g7, g0⟩
      case round =>
        clear g1 g3 g7 g0; obtain ⟨j, hj, rfl, g1, g3, g7, g0⟩ := hrel; by_cases hjl : j < 8
        · have hj0 : (j : Int) < 8 := by omega
          obtain ⟨p, hp⟩ : ∃ p, p = h.getD j 0 := ⟨_, rfl⟩; obtain ⟨q, hq⟩ : ∃ q, q = R.getD j 0 := ⟨_, rfl⟩; have ep : Hid ((zipT h R j)[j]? = some p) := hZ (by rw [hp]; exact HGET.out j hjl); have eq : Hid (R[j]? = some q) := hZ (by rw [hq]; exact xf0 _ _ (by rw [HR2.out]; exact hjl)); have es : Hid ((zipT h R j).set j (ad p q) = zipT h R (j + 1)) := hZ (by rw [hp, hq]; exact HSET.out j hjl); have el : Hid (j < (wvs (zipT h R j)).length) := hZ (by rw [xag, HZL.out j hj]; exact hjl); clear hp hq HSET HGET HZL HZE HZ0; generalize zipT h R j = zj at *; go_upto_region 14 with fail; refine rB (fun W => W = wr.drew) [8] [8] [0, 1, 2, 3, 4, 5, 6, 7, 8] 0 ?_; refine X3 ?_; have hS4 : (fun W => W = wr.drew) _ := rfl; refine Xq ?_; refine X5 ?_; refine Xr ?_; refine X5 ?_; refine xab rfl rfl hS4 (fun W hW => xaz w94 _ rfl _ _ _ _ _ rfl ((by subst hW; exact g1.drew)) (ep.out)) ?_
          refine X5 ?_; refine Xq ?_; refine X5 ?_; refine Xr ?_; refine X5 ?_; refine xab rfl rfl hS4 (fun W hW => xaz w94 _ rfl _ _ _ _ _ rfl ((by subst hW; exact g7.drew)) (eq.out)) ?_; refine X5 ?_; refine xab rfl rfl hS4 (fun W hW => xev _ _ rfl _ _ rfl rfl) ?_; refine X5 ?_; refine Xr ?_; refine Xf ?_; intro K hK; refine xb9 one94 _ _ rfl _ _ _ _ _ rfl rfl rfl g1.drew el.out ?_
          have g1' : Blk ((wr.drew).setCell ⟨w.heap.size, j, none⟩ (.int .u32 ((ad p q : Nat) : Int))) w.heap.size 320 (wvs (zipT h R (j + 1))) := by
            have := (Blk.drew g1).setw (i := j) (n := ad p q); rwa [es.out] at this
          have g3' := (Blk.drew g3).far (p := ⟨w.heap.size, j, none⟩) (by simp) (.int .u32 ((ad p q : Nat) : Int)); have g7' := (Blk.drew g7).far (p := ⟨w.heap.size, j, none⟩) (by simp; omega) (.int .u32 ((ad p q : Nat) : Int)); have g0' := (Below.drew g0).setCell (p := ⟨w.heap.size, j, none⟩) (by simp) (.int .u32 ((ad p q : Nat) : Int)); refine Xg ?_; clear hK; refine X9 ?_; go_wp2_with fail; go_roundw
          case rel => exact ⟨j + 1, by omega, by go_num, g1', g3', g7', g0'⟩
          case measure => simp only [intOf]; omega
        · obtain rfl : j = 8 := by omega
          rw [HZE.out, ← HR3.out] at g1; have hrl : Hid (res.length = 8) := hZ (by rw [HR3.out, List.length_zipWith, HH.out, HR2.out]; rfl); clear HZE HSET HGET HZL HZ0 hjl hj HR3
          go_wp2_with (first
            | ((with_reducible refine xat 110 ?_); refine xaa rfl _ (xa6 at96 (.tmp 2) rfl _ 320 (wvs res) rfl g1 (by rw [xag]; exact hrl.out)) ?_)
            | ((with_reducible refine xej (Op.store 320 (.tmp 4) (.tmp 110)) ?_); refine xak at96.i rfl (.tmp 4) (.tmp 110) rfl (w.heap.size + 2) 0 320 (wvs (zw 8)) (wvs res) rfl rfl g3 (by rw [xag]; exact hrl.out) (by rw [xag, xb1]; omega) (xdr _) ?_; intro w1 hb1 hg1 hs1))
          refine Xa ?_; rw [xbh _ _ (by rw [xag, xag, xb1]; exact hrl.out.symm)] at hb1; refine bodyPost_ret (xb3 rfl at96 _ _ (w.heap.size + 2) 320 (wvs res) rfl hb1 (by rw [xag]; exact hrl.out)) rfl ?_; exact ⟨rfl, g0.grown hg1 g0.size (by intro k hk; cases hk; omega)⟩
theorem exec_sia {P : Program} {w : World} {a : Act} {o : Oper} {t e : TypeId} (hu : P.underlying t = some (.slice e)) (hz : (P.info? e).map (·.size) = some 1) (x y : Operand) (ho : o.op = .indexAddr t x y) (ad : Addr) (n c i : Nat) (k : IntKind) (hx : a.eval x = .slice (some ad) n c) (hy : a.eval y = .int k (i : Int)) (hi : i < n) :
    (execOp a.eval o).run P w = .ok (.value (.pointer (some (ad.add i)))) w := by
  have he : P.elem t = e := by simp [Program.elem, hu]
  have hs : (sizeOf e).run P w = .ok 1 w := by
    cases hq : P.info? e with
    | none => simp [hq] at hz
    | some j =>
      simp [hq] at hz; simp [sizeOf, typeInfo, hq, hz]
  have hr := run_indexAt_slice (P := P) w t ad n c k (i : Int) (by rw [he]; exact hu); rw [he, if_pos (by omega), hs] at hr; simp only [Result.andThen_ok, Int.toNat_natCast, Nat.mul_one] at hr; unfold execOp; simp only [ho, hx, hy, Sem.run_bind, hr, Result.andThen_ok, Sem.run_pure]
def zb (n : Nat) : List UInt8 := List.replicate n 0
theorem xb6 (n : Nat) : (zb n).length = n := by simp [zb]
def xjn : Value → Nat
  | .slice _ n _ => n
  | _ => 0
theorem one_new (u : World) (x : UInt8) (v : Value) (hv : bv x = v) : Rd (u.alloc (.cells #[v] 5)) (some ⟨u.heap.size, 0, none⟩) (bvs [x]) := by
  subst hv; exact Rd.of_blk0 (es := []) (by simpa [bvs] using Blk.new u 5 [bv x])
structure Lft (S : Nat → Prop) (w : World) (A : Option Addr) (n c : Nat) (l : List UInt8) : Prop where
  len : l.length = n
  cap : n ≤ c
  max : c ≤ maxLen
  rd : Rd w A (bvs l)
  far : ∀ ad, A = some ad → ¬ S ad.block
theorem Lft.fr {S T : Nat → Prop} {w w' : World} {A : Option Addr} {n c : Nat} {l : List UInt8} (h : Lft S w A n c l) (hf : Fr T w w') (hT : ∀ k, T k → S k) : Lft S w' A n c l :=
  ⟨h.len, h.cap, h.max, h.rd.fr hf (fun ad e ht => h.far ad e (hT _ ht)), h.far⟩
theorem Lft.cut {S : Nat → Prop} {w : World} {A : Option Addr} {n c : Nat} {l : List UInt8} (h : Lft S w A n c l) (m : Nat) (hm : m ≤ n) : Lft S w (cutA A c m 1) (n - m) (c - m) (l.drop m) := by
  refine ⟨by simp [h.len], by have := h.cap; omega, by have := h.max; omega, ?_, ?_⟩
  · have h1 := h.rd.cutA (c := c) (lo := m) (z := 1) (by rw [xae, h.len]; have := h.cap; omega) (n - m)
    have e : ((bvs l).drop (m * 1)).take (n - m) = bvs (l.drop m) := by
      rw [Nat.mul_one]; unfold bvs; rw [← List.map_drop, List.take_of_length_le (by simp [h.len])]
    rwa [e] at h1
  · intro ad e
    unfold cutA at e
    split at e
    · exact h.far ad e
    · cases A with
      | none => cases e
      | some a0 =>
        simp only [Option.map_some, Option.some.injEq] at e; have hb : ad.block = a0.block := by rw [← e]; unfold Addr.add; split <;> rfl
        rw [hb]; exact h.far a0 rfl
def RdP (S : Nat → Prop) (w : World) (g : Nat) : Option (List UInt8) → Prop
  | none => ∃ A n c, Blk w g 195 [.bool true, .bool true, .slice A n c]
  | some l => ∃ A n c, Blk w g 195 [.bool true, .bool false, .slice A n c] ∧ Lft S w A n c l
def xd1 (st : Option (List UInt8)) (k : Int) : List UInt8 := match st with
  | none => []
  | some l => if 0 ≤ k ∧ k ≤ l.length then l.take k.toNat else []
def xcg (st : Option (List UInt8)) (k : Int) : Option (List UInt8) := match st with
  | none => none
  | some l => if 0 ≤ k ∧ k ≤ l.length then some (l.drop k.toNat) else none
theorem xnf {S : Nat → Prop} (g : Nat) (st : Option (List UInt8)) (k : Int) (w : World) (h : RdP S w g st) (hS : S g) (hk : -9223372036854775808 ≤ k ∧ k ≤ 9223372036854775807) (hb : ∀ l, st = some l → l.length ≤ 140737488351232) :
    Calls Tryz.prog 53 #[.pointer (some ⟨g, 0, none⟩), .int .i64 k] w fun e w' => ∃ v, e = .returned v ∧ OwnB w' w.heap.size 5 v (xd1 st k) ∧ RdP S w' g (xcg st k) ∧ Fr (· = g) w w' := by
  cases st with
  | none =>
    obtain ⟨A, n, c, hg⟩ := h; have hc0 : w.cell? ⟨g, 0, none⟩ = some (.bool true) := by rw [hg.cell]; rfl
    have hc1 : w.cell? ⟨g, 1, none⟩ = some (.bool true) := by rw [hg.cell]; rfl
    go_enter Tryz.func53, Tryz.ntmps53
    go_wp2
    go_ret; exact ⟨_, rfl, OwnB.nil _ _ _, ⟨A, n, c, hg⟩, Fr.refl _ _⟩
  | some l =>
    obtain ⟨A, n, c, hg, hl⟩ := h; have hc0 : w.cell? ⟨g, 0, none⟩ = some (.bool true) := by rw [hg.cell]; rfl
    have hc1 : w.cell? ⟨g, 1, none⟩ = some (.bool false) := by rw [hg.cell]; rfl
    have hc2 : w.cell? ⟨g, 2, none⟩ = some (.slice A n c) := by rw [hg.cell]; rfl
    have hf1 := hg.free 1; have hf2 := hg.free 2; have hglt := hg.lt; have hn : n ≤ 140737488351232 := by rw [← hl.len]; exact hb l rfl
    have HL := hZ hl.len; by_cases hin : 0 ≤ k ∧ k ≤ l.length
    · have e1 : xd1 (some l) k = l.take k.toNat := by simp only [xd1]; rw [if_pos hin]
      have e2 : xcg (some l) k = some (l.drop k.toNat) := by simp only [xcg]; rw [if_pos hin]
      rw [e1, e2]; clear e1 e2; obtain ⟨m, rfl⟩ := Int.eq_ofNat_of_zero_le hin.1; rw [Int.toNat_natCast]; have hm : m ≤ n := by rw [← hl.len]; omega
      clear hin; have htl : Hid ((l.take m).length = m) := by show _ = _; simp [hl.len]; omega
      have hrd : Rd w A (bvs (l.take m)) := by
        have := hl.rd.take m; unfold bvs at this ⊢; rwa [← List.map_take] at this
      generalize hlm : l.take m = lm at *; have HLM := hZ hlm; clear hlm; have hcm := hl.cap
      have ho : OwnB (w.alloc (.cells #[] 5)) w.heap.size 5 (.slice (some ⟨w.heap.size, 0, none⟩) 0 0) [] :=
        .inr ⟨w.heap.size, [], rfl, by omega, by simp, by simpa [bvs] using Blk.new w 5 []⟩
      have hrd1 : Rd (w.alloc (.cells #[] 5)) A (bvs lm) := hrd.alloc _; go_enter Tryz.func53, Tryz.ntmps53
      go_wp2_with (first
        | ((with_reducible refine xat 29 ?_); refine xaa rfl _ (xaw st24 (.tmp 27) (.tmp 28) rfl A n c m .i64 rfl rfl (by omega)) ?_)
        | ((with_reducible refine xat 30 ?_)
           refine xbv bt rfl (.tmp 23) (.tmp 29) rfl w.heap.size _ [] rfl ho A m c lm rfl htl.out hrd1 (by simp; omega) (by simp) ?_; intro v1 w1 ho1 hg1 _; have hg' : Blk w1 g 195 [.bool true, .bool false, .slice A n c] := (hg.alloc _).grown hg1 (fun e => by have := (ho.lt _ e.symm).1; omega); have hc2' : w1.cell? ⟨g, 2, none⟩ = some (.slice A n c) := by rw [hg'.cell]; rfl
           have hf2' := hg'.free 2)
        | ((with_reducible refine xat 37 ?_); refine xaa rfl _ (xco st24 (.tmp 35) (.tmp 36) rfl A n c m .i64 rfl rfl (by omega)) ?_)
        | go_in)
      go_ret; have hfr1 : Fr (· = g) w w1 := ((Fr.refl _ _).alloc _).grown hg1 (fun k hk => .inr (ho.lt k hk).1); have hfr2 : Fr (· = g) w1 (w1.setCell ⟨g, 2, none⟩ (.slice (cutA A c m 1) (n - m) (c - m))) := Fr.setCell (p := ⟨g, 2, none⟩) (Fr.refl (· = g) w1) (.inl rfl) _; have hfar : ∀ k, v1.ownBlock = some k → k ≠ g := fun k hk e => by have := (ho1.lt k hk).1; omega
      refine ⟨_, rfl, ?_, ⟨cutA A c m 1, n - m, c - m, ?_, ?_⟩, hfr1.trans hfr2⟩
      · have h1 : OwnB w1 w.heap.size 5 v1 lm := by simpa using ho1
        exact h1.grown (xcp w1 g 2 _) (fun k hk e => by cases hk; exact hfar g e rfl)
      · exact hg'.set_ 2 _
      · exact (hl.fr (hfr1.trans hfr2) (fun k hk => by cases hk; exact hS)).cut m hm
    · have e1 : xd1 (some l) k = [] := by simp only [xd1]; rw [if_neg hin]
      have e2 : xcg (some l) k = none := by simp only [xcg]; rw [if_neg hin]
      rw [e1, e2]; clear e1 e2; rw [hl.len] at hin
      have hfin : ∀ (w' : World), w' = w.setCell ⟨g, 1, none⟩ (.bool true) → RdP S w' g none ∧ Fr (· = g) w w' := by
        rintro w' rfl; exact ⟨⟨A, n, c, hg.set_ 1 _⟩, Fr.setCell (p := ⟨g, 1, none⟩) (Fr.refl (· = g) w) (.inl rfl) _⟩
      have HF := hZ hfin; clear hfin hl hb; by_cases h0 : k < 0
      · go_enter Tryz.func53, Tryz.ntmps53
        go_wp2
        go_ret; exact ⟨_, rfl, OwnB.nil _ _ _, HF.out _ rfl⟩
      · have h1 : (n : Int) < k := by omega
        go_enter Tryz.func53, Tryz.ntmps53
        go_wp2
        go_ret; exact ⟨_, rfl, OwnB.nil _ _ _, HF.out _ rfl⟩
theorem or_i64 (a b : Nat) (ha : a < 4294967296) (hb : b < 256) : bits .or .i64 ((a : Int) * 256) (b : Int) = (((a * 256 + b : Nat)) : Int) := by
  show IntKind.i64.wrap ((BitVec.ofInt 64 ((a : Int) * 256) ||| BitVec.ofInt 64 (b : Int)).toNat : Int) = _; have e : (a : Int) * 256 = ((a * 256 : Nat) : Int) := by omega
  rw [BitVec.toNat_or, e, ofInt_u64 (a * 256) (by omega), ofInt_u64 b (by omega), nat_join 8 _ _ (by omega) (by omega)]; exact Lib.wrap_i64_small _ (by omega)
theorem xkk (l : List UInt8) (k : Nat) (h : k < l.length) : nOf (l.take (k + 1)) = nOf (l.take k) * 256 + (l[k]).toNat := by
  rw [List.take_succ_eq_append_getElem h, xgp]; simp [nOf]
theorem xng (l : List UInt8) (k : Nat) (h : k ≤ 4) : nOf (l.take k) < 4294967296 := by
  have h1 := xhr (l.take k); have h2 : 256 ^ (l.take k).length ≤ 256 ^ 4 := Nat.pow_le_pow_right (by omega) (by rw [List.length_take]; omega); exact Nat.lt_of_lt_of_le h1 h2
theorem xnh (st : Option (List UInt8)) (k : Nat) : (xd1 st k).length ≤ k := by
  cases st with
  | none => simp [xd1]
  | some l =>
    simp only [xd1]
    split
    · simp; omega
    · simp
def numL (st : Option (List UInt8)) (k : Nat) : Nat := nOf (xd1 st k)
theorem xgr {S : Nat → Prop} (g : Nat) (st : Option (List UInt8)) (k : Nat) (w : World) (h : RdP S w g st) (hS : S g) (hk : k ≤ 4) (hb : ∀ l, st = some l → l.length ≤ 140737488351232) :
    Calls Tryz.prog 111 #[.pointer (some ⟨g, 0, none⟩), .int .i64 (k : Int)] w fun e w' => e = .returned (.int .i64 (numL st k : Nat)) ∧ RdP S w' g (xcg st k) ∧ Fr (· = g) w w' := by
  have HT := hZ (fun W hW => xnf g st k W hW hS (by omega) hb); have hlen := Nat.le_trans (xnh st k) hk; unfold numL; generalize xd1 st k = l at *; generalize xcg st k = st' at *; go_enter Tryz.func111, Tryz.ntmps111; go_wp2_with (go_at_call 53; refine (HT.out _ h).mono ?_; rintro e w1 ⟨v, rfl, ho1, hr1, hf1⟩; obtain ⟨A, c, rfl, hcl, hcm, hrd⟩ := ho1.rd)
  go_loopw [5, 12] (fun x i wr => ∃ j : Nat, j ≤ l.length ∧ i = .int .i64 (j : Int) ∧ x = .int .i64 (nOf (l.take j) : Nat) ∧ w1 = wr) (fun _ i _ => l.length - (intOf i).toNat)
  case atStart => exact ⟨0, by omega, by go_num, by simp [nOf], rfl⟩
  case round =>
    obtain ⟨j, hj, rfl, rfl, rfl⟩ := hrel; by_cases hlt : j < l.length
    · obtain ⟨ad, rfl, hcc⟩ := hrd (by rw [xae]; omega)
      have hc : w1.cell? (ad.add j) = some (.int .u8 ((l[j]).toNat : Int)) := hcc j _ (by rw [xd2, List.getElem?_eq_getElem hlt]; rfl); have hx := xng l j (by omega); have hs := hZ (xkk l j hlt); have hy : (l[j]).toNat < 256 := UInt8.toNat_lt _; generalize (l[j]).toNat = y at *; generalize nOf (l.take j) = x at *; have hor := or_i64 x y (by omega) hy
      go_wp2
      go_roundw
      case rel => exact ⟨j + 1, by omega, by go_num, by congr 1; rw [hs.out]; omega, by first | rfl | trivial⟩
      case measure => simp only [intOf]; omega
    · obtain rfl : j = l.length := by omega
      go_wp2
      go_ret; rw [List.take_length]; exact ⟨rfl, hr1, hf1⟩
theorem byte_any {S : Nat → Prop} (g : Nat) (st : Option (List UInt8)) (w : World) (h : RdP S w g st) (hS : S g) (hb : ∀ l, st = some l → l.length ≤ 140737488351232) :
    Calls Tryz.prog 222 #[.pointer (some ⟨g, 0, none⟩)] w fun e w' => e = .returned (.int .u8 (numL st 1 : Nat)) ∧ RdP S w' g (xcg st 1) ∧ Fr (· = g) w w' := by
  have HT := hZ (fun W hW => xgr g st 1 W hW hS (by omega) hb)
  have hlt : numL st 1 < 256 := by
    have h1 := xhr (xd1 st ((1 : Nat) : Int)); have h2 : 256 ^ (xd1 st ((1 : Nat) : Int)).length ≤ 256 ^ 1 := Nat.pow_le_pow_right (by omega) (xnh st 1); exact Nat.lt_of_lt_of_le h1 h2
  generalize numL st 1 = x at *; go_enter Tryz.func222, Tryz.ntmps222; go_wp2_with (go_at_call 111; refine (HT.out _ h).mono ?_; rintro e w1 ⟨rfl, hr1, hf1⟩); go_ret; exact ⟨rfl, hr1, hf1⟩
theorem u16_any {S : Nat → Prop} (g : Nat) (st : Option (List UInt8)) (w : World) (h : RdP S w g st) (hS : S g) (hb : ∀ l, st = some l → l.length ≤ 140737488351232) :
    Calls Tryz.prog 58 #[.pointer (some ⟨g, 0, none⟩)] w fun e w' => e = .returned (.int .i64 (numL st 2 : Nat)) ∧ RdP S w' g (xcg st 2) ∧ Fr (· = g) w w' := by
  have HT := hZ (fun W hW => xgr g st 2 W hW hS (by omega) hb); generalize numL st 2 = x at *; go_enter Tryz.func58, Tryz.ntmps58; go_wp2_with (go_at_call 111; refine (HT.out _ h).mono ?_; rintro e w1 ⟨rfl, hr1, hf1⟩); go_ret; exact ⟨rfl, hr1, hf1⟩
theorem u32_any {S : Nat → Prop} (g : Nat) (st : Option (List UInt8)) (w : World) (h : RdP S w g st) (hS : S g) (hb : ∀ l, st = some l → l.length ≤ 140737488351232) :
    Calls Tryz.prog 178 #[.pointer (some ⟨g, 0, none⟩)] w fun e w' => e = .returned (.int .i64 (numL st 4 : Nat)) ∧ RdP S w' g (xcg st 4) ∧ Fr (· = g) w w' := by
  have HT := hZ (fun W hW => xgr g st 4 W hW hS (by omega) hb); generalize numL st 4 = x at *; go_enter Tryz.func178, Tryz.ntmps178; go_wp2_with (go_at_call 111; refine (HT.out _ h).mono ?_; rintro e w1 ⟨rfl, hr1, hf1⟩); go_ret; exact ⟨rfl, hr1, hf1⟩
def badB (st : Option (List UInt8)) : Bool := match st with
  | none => true
  | some _ => false
def doneB (st : Option (List UInt8)) : Bool := match st with
  | none => false
  | some l => (l.length : Int) == 0
theorem bad_any {S : Nat → Prop} (g : Nat) (st : Option (List UInt8)) (w : World) (h : RdP S w g st) :
    Calls Tryz.prog 59 #[.pointer (some ⟨g, 0, none⟩)] w fun e w' => e = .returned (.bool (badB st)) ∧ w = w' := by
  cases st with
  | none =>
    obtain ⟨A, n, c, hg⟩ := h; have hc1 : w.cell? ⟨g, 1, none⟩ = some (.bool true) := by rw [hg.cell]; rfl
    go_enter Tryz.func59, Tryz.ntmps59
    go_wp2
    go_ret; exact ⟨rfl, rfl⟩
  | some l =>
    obtain ⟨A, n, c, hg, hl⟩ := h; have hc1 : w.cell? ⟨g, 1, none⟩ = some (.bool false) := by rw [hg.cell]; rfl
    go_enter Tryz.func59, Tryz.ntmps59
    go_wp2
    go_ret; exact ⟨rfl, rfl⟩
theorem done_any {S : Nat → Prop} (g : Nat) (st : Option (List UInt8)) (w : World) (h : RdP S w g st) :
    Calls Tryz.prog 54 #[.pointer (some ⟨g, 0, none⟩)] w fun e w' => e = .returned (.bool (doneB st)) ∧ w = w' := by
  cases st with
  | none =>
    obtain ⟨A, n, c, hg⟩ := h; have hc0 : w.cell? ⟨g, 0, none⟩ = some (.bool true) := by rw [hg.cell]; rfl
    have hc1 : w.cell? ⟨g, 1, none⟩ = some (.bool true) := by rw [hg.cell]; rfl
    go_enter Tryz.func54, Tryz.ntmps54
    go_wp2
    go_ret; exact ⟨rfl, rfl⟩
  | some l =>
    obtain ⟨A, n, c, hg, hl⟩ := h; have hc0 : w.cell? ⟨g, 0, none⟩ = some (.bool true) := by rw [hg.cell]; rfl
    have hc1 : w.cell? ⟨g, 1, none⟩ = some (.bool false) := by rw [hg.cell]; rfl
    have hc2 : w.cell? ⟨g, 2, none⟩ = some (.slice A n c) := by rw [hg.cell]; rfl
    have e : doneB (some l) = ((n : Int) == 0) := by simp only [doneB, hl.len]
    rw [e]; clear hl e; go_enter Tryz.func54, Tryz.ntmps54
    go_wp2
    go_ret; exact ⟨rfl, rfl⟩
end Go.Proofs.YtkjjdgnkelchfaaGreat
