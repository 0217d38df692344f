/- The reference's words of a block. -/
import Derived.Test.YtehbahobkgoapaaWd
import Derived.Test.YtehbahobkgoapaaWp
namespace Go.Proofs.Ytehbahobkgoapaa
open Go Go.RowKit
set_option linter.unusedSimpArgs false
set_option linter.unusedVariables false

/-- The place of a byte of a slice; the byte. -/
theorem exec_sia {P : Program} {w : World} {a : Act} {o : Oper} {t e : TypeId} (hu : P.underlying t = some (.slice e)) (hz : (P.info? e).map (·.size) = some 1) (x y : Operand) (ho : o.op = .indexAddr t x y) (ad : Addr) (n c i : Nat) (k : IntKind) (hx : a.eval x = .slice (some ad) n c) (hy : a.eval y = .int k (i : Int)) (hi : i < n) :
    (execOp a.eval o).run P w = .ok (.value (.pointer (some (ad.add i)))) w := by
  have he : P.elem t = e := by simp [Program.elem, hu]
  have hs : (sizeOf e).run P w = .ok 1 w := by
    cases hq : P.info? e with
    | none => simp [hq] at hz
    | some j =>
      simp [hq] at hz
      simp [sizeOf, typeInfo, hq, hz]
  have hr := run_indexAt_slice (P := P) w t ad n c k (i : Int) (by rw [he]; exact hu)
  rw [he, if_pos (by omega), hs] at hr
  simp only [Result.andThen_ok, Int.toNat_natCast, Nat.mul_one] at hr
  unfold execOp
  simp only [ho, hx, hy, Sem.run_bind, hr, Result.andThen_ok, Sem.run_pure]
theorem exec_bload_rd {P : Program} {w : World} {a : Act} {o : Oper} {t : TypeId} (hu : ∃ d, P.underlying t = some d ∧ d.isRow = false) (x : Operand) (ho : o.op = .load t x) (ad : Addr) (i : Nat) (l : List UInt8) (n : UInt8) (hx : a.eval x = .pointer (some (ad.add i))) (hr : Rd w (some ad) (bvs l)) (e : l[i]? = some n) :
    (execOp a.eval o).run P w = .ok (.value (.int .u8 (n.toNat : Int))) w := by
  have hi : i < l.length := (List.getElem?_eq_some_iff.1 e).1
  obtain ⟨ad', h1, h2⟩ := hr.at_ (k := i) (by rw [bvs_length]; exact hi)
  cases h1
  have hc : w.cell? (ad.add i) = some (.int .u8 (n.toNat : Int)) := by
    rw [h2]
    have h3 : (bvs l)[i]? = some (bv n) := by rw [bvs_get, e]; rfl
    rw [List.getElem?_eq_getElem (by rw [bvs_length]; exact hi)] at h3
    rw [Option.some.inj h3]
    rfl
  obtain ⟨d, hu, hd⟩ := hu
  exact exec_load_one hu hd x ho _ _ hx hc
theorem sz5 : (Try.prog.info? 5).map (·.size) = some 1 := by kernel_rfl

theorem turned_is (x n : Nat) (k : Int) (w : World) (hx : x < 4294967296) (hn : n ≤ 32) (hk : k = (n : Int)) :
    Calls Try.prog 140 #[.int .u32 (x : Int), .int .i64 k] w fun e w' => e = .returned (.int .u32 ((rotr x n : Nat) : Int)) ∧ w' = w.drew := by
  subst hk
  exact turned_any x n w hx hn
set_option maxRecDepth 100000 in
set_option maxHeartbeats 4000000 in
theorem words_any (A : Option Addr) (n c : Nat) (b : List UInt8) (w : World) (hr : Rd w A (bvs b)) (hn : n = 64) (hl : b.length = 64) :
    Calls Try.prog 138 #[.slice A n c] w fun e w' => e = .returned (arrW (sched b)) ∧ Below w.heap.size w w' := by
  subst hn
  have HL := Lib.hid hl
  obtain ⟨pa, had⟩ : ∃ pa, A = some pa := by
    obtain ⟨pa, h, _⟩ := hr.at_ (k := 0) (by rw [bvs_length]; omega)
    exact ⟨pa, h⟩
  subst had
  have b1 : Blk (w.alloc (.cells (wvs (zw 64)).toArray 176)) w.heap.size 176 (wvs (zw 64)) := Blk.new _ _ _
  have b2 : Blk ((w.alloc (.cells (wvs (zw 64)).toArray 176)).alloc (.cells (wvs (zw 64)).toArray 176)) (w.heap.size + 1) 176 (wvs (zw 64)) := by
    have := Blk.new (w.alloc (.cells (wvs (zw 64)).toArray 176)) 176 (wvs (zw 64))
    rwa [show (w.alloc (.cells (wvs (zw 64)).toArray 176)).heap.size = w.heap.size + 1 by simp] at this
  have hall := And.intro (b1.alloc (.cells (wvs (zw 64)).toArray 176)) (And.intro b2
    (((Below.refl w.heap.size w).alloc (Nat.le_refl _) (.cells (wvs (zw 64)).toArray 176)).alloc (by simp) (.cells (wvs (zw 64)).toArray 176)))
  clear b1 b2 hl
  have HSE := Lib.hid (sched_eq b)
  have HS64 := Lib.hid (sched_length b)
  generalize sched b = sb at *
  unfold arrW
  go_enter Try.func138, Try.ntmps138
  go_wp2_with fail
  generalize hW : World.alloc (World.alloc w _) _ = w0
  have h3 : Blk w0 w.heap.size 176 (wvs (zw 64)) ∧ Blk w0 (w.heap.size + 1) 176 (wvs (zw 64)) ∧ Below w.heap.size w w0 := by rw [← hW]; exact hall
  clear hall hW
  obtain ⟨c2, c3, c4⟩ := h3
  go_loopw [4] (fun i wr => ∃ k : Nat, k ≤ 16 ∧ i = .int .i64 (k : Int) ∧ Blk wr w.heap.size 176 (wvs (zw 64)) ∧ Blk wr (w.heap.size + 1) 176 (wvs (first k b ++ zw (64 - k))) ∧ Below w.heap.size w wr) (fun i _ => 16 - (intOf i).toNat)
  case atStart => exact ⟨0, by omega, by go_num, c2, c3, c4⟩
  case round =>
    clear c2 c3 c4 w0
    obtain ⟨k, hk, rfl, d2, d3, d4⟩ := hrel
    by_cases hlt : k < 16
    · have hk0 : (k : Int) < 16 := by omega
      rw [fpw_zero b k (by omega)] at d3
      go_wp2_with fail
      go_loopw [5] (fun i wr => ∃ j : Nat, j ≤ 4 ∧ i = .int .i64 (j : Int) ∧ Blk wr w.heap.size 176 (wvs (zw 64)) ∧ Blk wr (w.heap.size + 1) 176 (wvs (fpw b k j)) ∧ Below w.heap.size w wr) (fun i _ => 4 - (intOf i).toNat)
      case atStart => exact ⟨0, by omega, by go_num, d2, d3, d4⟩
      case round =>
        clear d2 d3 d4
        obtain ⟨j, hj, rfl, d2, d3, d4⟩ := hrel
        by_cases hjl : j < 4
        · have hj0 : (j : Int) < 4 := by omega
          have e0 := Lib.hid (byte_get b (4 * k + j) (by rw [HL.out]; omega))
          have ep := Lib.hid (fpw_get b k j)
          have es := Lib.hid (fpw_set b k j)
          have el : Hid (k < (wvs (fpw b k j)).length) := Lib.hid (by rw [wvs_length, fpw_length b k j (by omega)]; omega)
          have eq := Lib.hid (pw_step b k j hjl)
          have hrw := hr.below d4
          generalize pw b k j = p at *
          generalize pw b k (j + 1) = p' at *
          generalize fpw b k j = fj at *
          generalize b.getD (4 * k + j) 0 = y at *
          go_upto_region 8 with fail
          refine rg_begin (fun W => W = wr.drew) [15] [15] [0, 1, 2, 3, 4, 5, 6, 7, 8, 9, 10, 11, 12, 13, 14, 15] 0 mixed (by kernel_rfl) (fun _ _ _ _ e hh => ⟨e.symm.trans hh.1, hh.2⟩) ?_
          simp only [pick, List.map_cons, List.map_nil, List.getD_cons_zero, List.getD_cons_succ]
          have hS : (fun W => W = wr.drew) _ := rfl
          refine rg_take (v := ?v1_0) rfl rfl hS ?y1_0 ?_
          case y1_0 => intro W hW; (try subst hW); go_simp; try with_reducible rfl
          simp only [Act.put, List.setIfInBounds_toArray, List.set_cons_zero, List.set_cons_succ]
          refine rg_take (v := ?v1_1) rfl rfl hS ?y1_1 ?_
          case y1_1 => intro W hW; (try subst hW); go_simp; try with_reducible rfl
          simp only [Act.put, List.setIfInBounds_toArray, List.set_cons_zero, List.set_cons_succ]
          refine rg_take rfl rfl hS (fun W hW => exec_ia0 ia176 _ _ rfl _ _ _ rfl rfl (by omega)) ?_
          simp only [Act.put, List.setIfInBounds_toArray, List.set_cons_zero, List.set_cons_succ]
          refine rg_take rfl rfl hS (fun W hW => exec_wload w94 _ rfl _ _ _ _ _ rfl ((by subst hW; exact d3.drew)) (ep.out)) ?_
          simp only [Act.put, List.setIfInBounds_toArray, List.set_cons_zero, List.set_cons_succ]
          refine rg_take rfl rfl hS (fun W hW => exec_wshl _ _ rfl _ 8 _ rfl rfl (by decide) 256 rfl) ?_
          simp only [Act.put, List.setIfInBounds_toArray, List.set_cons_zero, List.set_cons_succ]
          refine rg_take (v := ?v1_5) rfl rfl hS ?y1_5 ?_
          case y1_5 => intro W hW; (try subst hW); go_simp; try with_reducible rfl
          simp only [Act.put, List.setIfInBounds_toArray, List.set_cons_zero, List.set_cons_succ]
          refine rg_take (v := ?v1_6) rfl rfl hS ?y1_6 ?_
          case y1_6 => intro W hW; (try subst hW); go_simp; try with_reducible rfl
          simp only [Act.put, List.setIfInBounds_toArray, List.set_cons_zero, List.set_cons_succ]
          refine rg_take rfl rfl hS (fun W hW => exec_imul _ _ rfl _ _ (((4 * k : Nat) : Int)) rfl rfl (by omega) (by omega)) ?_
          simp only [Act.put, List.setIfInBounds_toArray, List.set_cons_zero, List.set_cons_succ]
          refine rg_take (v := ?v1_8) rfl rfl hS ?y1_8 ?_
          case y1_8 => intro W hW; (try subst hW); go_simp; try with_reducible rfl
          simp only [Act.put, List.setIfInBounds_toArray, List.set_cons_zero, List.set_cons_succ]
          refine rg_take rfl rfl hS (fun W hW => exec_iadd _ _ rfl _ _ (((4 * k + j : Nat) : Int)) rfl rfl (by omega) (by omega)) ?_
          simp only [Act.put, List.setIfInBounds_toArray, List.set_cons_zero, List.set_cons_succ]
          refine rg_take rfl rfl hS (fun W hW => exec_sia Try.underlying24 sz5 _ _ rfl pa 64 c (4 * k + j) _ rfl rfl (by omega)) ?_
          simp only [Act.put, List.setIfInBounds_toArray, List.set_cons_zero, List.set_cons_succ]
          refine rg_take rfl rfl hS (fun W hW => exec_bload_rd w5 _ rfl pa (4 * k + j) b y rfl (by subst hW; exact hrw.drew) e0.out) ?_
          simp only [Act.put, List.setIfInBounds_toArray, List.set_cons_zero, List.set_cons_succ]
          refine rg_take rfl rfl hS (fun W hW => exec_cast Try.underlying5 Try.underlying94 _ rfl _ rfl (by with_reducible repeat' first | assumption | exact ad_lt _ _ | exact u8_w32 _ | exact not_lt32 _ | exact mod_lt32 _ | refine xor_lt32 ?_ ?_ | refine or_lt32 ?_ ?_ | refine and_lt32 ?_ | refine rotr_lt _ _ ?_ | refine div_lt32 _ ?_)) ?_
          simp only [Act.put, List.setIfInBounds_toArray, List.set_cons_zero, List.set_cons_succ]
          refine rg_take rfl rfl hS (fun W hW => exec_wadd _ _ rfl _ _ rfl rfl) ?_
          simp only [Act.put, List.setIfInBounds_toArray, List.set_cons_zero, List.set_cons_succ]
          refine rg_take rfl rfl hS (fun W hW => exec_ia0 ia176 _ _ rfl _ _ _ rfl rfl (by omega)) ?_
          simp only [Act.put, List.setIfInBounds_toArray, List.set_cons_zero, List.set_cons_succ]
          refine rg_one rfl rfl ?_; intro K hK
          refine wp_store_one one94 _ _ rfl _ _ _ _ _ rfl rfl rfl d3.drew el.out ?_
          rw [eq.out]
          have d3' : Blk ((wr.drew).setCell ⟨w.heap.size + 1, k, none⟩ (.int .u32 ((p' : Nat) : Int))) (w.heap.size + 1) 176 (wvs (fpw b k (j + 1))) := by
            have := (Blk.drew d3).setw (i := k) (n := p')
            rwa [es.out] at this
          have d2' := (Blk.drew d2).far (p := ⟨w.heap.size + 1, k, none⟩) (by simp) (.int .u32 ((p' : Nat) : Int))
          have d4' := (Below.drew d4).setCell (p := ⟨w.heap.size + 1, k, none⟩) (by simp) (.int .u32 ((p' : Nat) : Int))
          refine hK _ _ (fun h => by cases h) ?_; clear hK
          refine rg_done (by kernel_rfl) ?_
          go_wp2_with fail
          go_roundw
          case rel => exact ⟨j + 1, by omega, by go_num, d2', d3', d4'⟩
          case measure => simp only [intOf]; omega
        · obtain rfl : j = 4 := by omega
          rw [fpw_end b k (by omega)] at d3
          go_wp2_with fail
          go_roundw
          case rel => exact ⟨k + 1, by omega, by go_num, d2, d3, d4⟩
          case measure => simp only [intOf]; omega
    · obtain rfl : k = 16 := by omega
      clear hlt hk
      go_wp2_with fail
      go_loopw [6] (fun i wr => ∃ (t : Nat) (cur : List Nat), 16 ≤ t ∧ t ≤ 64 ∧ i = .int .i64 (t : Int) ∧ Hid (cur.length = t) ∧ Hid (ext (64 - t) cur = sb) ∧ (∀ x ∈ cur, x < 4294967296) ∧
        Blk wr w.heap.size 176 (wvs (zw 64)) ∧ Blk wr (w.heap.size + 1) 176 (wvs (cur ++ zw (64 - t))) ∧ Below w.heap.size w wr) (fun i _ => 64 - (intOf i).toNat)
      case atStart => exact ⟨16, first 16 b, by omega, by omega, by go_num, Lib.hid (first_length _ _), Lib.hid HSE.out.symm, first_lt _ _, d2, d3, d4⟩
      case round =>
        clear d2 d3 d4
        obtain ⟨t, cur, h16, h64, rfl, HC, HE, hlt, d2, d3, d4⟩ := hrel
        by_cases htl : t < 64
        · have ht0 : (t : Int) < 64 := by omega
          obtain ⟨x, hx⟩ : ∃ x, x = cur.getD (t - 2) 0 := ⟨_, rfl⟩
          obtain ⟨y, hy⟩ : ∃ x, x = cur.getD (t - 15) 0 := ⟨_, rfl⟩
          obtain ⟨p, hp⟩ : ∃ x, x = cur.getD (t - 7) 0 := ⟨_, rfl⟩
          obtain ⟨q, hq⟩ : ∃ x, x = cur.getD (t - 16) 0 := ⟨_, rfl⟩
          have bx : x < 4294967296 := by rw [hx]; exact ext_get_lt _ _ hlt
          have by_ : y < 4294967296 := by rw [hy]; exact ext_get_lt _ _ hlt
          have ex : Hid ((cur ++ zw (64 - t))[t - 2]? = some x) := Lib.hid (by rw [hx]; exact ext_get _ _ _ (by rw [HC.out]; omega))
          have ey : Hid ((cur ++ zw (64 - t))[t - 15]? = some y) := Lib.hid (by rw [hy]; exact ext_get _ _ _ (by rw [HC.out]; omega))
          have ep : Hid ((cur ++ zw (64 - t))[t - 7]? = some p) := Lib.hid (by rw [hp]; exact ext_get _ _ _ (by rw [HC.out]; omega))
          have eq : Hid ((cur ++ zw (64 - t))[t - 16]? = some q) := Lib.hid (by rw [hq]; exact ext_get _ _ _ (by rw [HC.out]; omega))
          have HN : Hid (nw cur = ad (ad (ad (sg1 x) p) (sg0 y)) q) := Lib.hid (by unfold nw; rw [HC.out, hx, hy, hp, hq])
          have hlt' : ∀ z ∈ cur ++ [nw cur], z < 4294967296 := by
            intro z hz
            rcases List.mem_append.1 hz with hz | hz
            · exact hlt z hz
            · rw [List.mem_singleton.1 hz]; exact ad_lt _ _
          have HE' : Hid (ext (64 - (t + 1)) (cur ++ [nw cur]) = sb) := Lib.hid (by rw [← ext_succ, show 64 - (t + 1) + 1 = 64 - t by omega]; exact HE.out)
          have HC' : Hid ((cur ++ [nw cur]).length = t + 1) := Lib.hid (by rw [List.length_append, HC.out]; rfl)
          have HS : Hid ((cur ++ zw (64 - t)).set t (nw cur) = (cur ++ [nw cur]) ++ zw (64 - (t + 1))) := Lib.hid (ext_set _ _ _ HC.out htl)
          have HLen : Hid (t < (wvs (cur ++ zw (64 - t))).length) := Lib.hid (by rw [wvs_length, List.length_append, HC.out, zw_length]; omega)
          have X17 := fun u => Lib.hid (turned_is x 17 17 u bx (by decide) rfl)
          have X19 := fun u => Lib.hid (turned_is x 19 19 u bx (by decide) rfl)
          have Y7 := fun u => Lib.hid (turned_is y 7 7 u by_ (by decide) rfl)
          have Y18 := fun u => Lib.hid (turned_is y 18 18 u by_ (by decide) rfl)
          clear hx hy hp hq HE HC hlt
          generalize nw cur = nn at *
          generalize cur ++ zw (64 - t) = cc at *
          generalize cur ++ [nn] = cn at *
          go_upto_region 16 with (first
            | ((with_reducible refine at_dst 39 ?_); refine wpList_yield rfl _ (exec_isub _ _ rfl _ _ (((t - 15 : Nat) : Int)) rfl rfl (by omega) (by omega)) ?_)
            | ((with_reducible refine at_dst 40 ?_); refine wpList_yield rfl _ (exec_ia0 ia176 _ _ rfl _ _ _ rfl rfl (by omega)) ?_)
            | ((with_reducible refine at_dst 41 ?_); refine wpList_yield rfl _ (exec_wload w94 _ rfl _ _ _ _ _ rfl ((d3)) (ey.out)) ?_)
            | ((with_reducible refine at_dst 43 ?_); refine wpList_yield rfl _ (exec_isub _ _ rfl _ _ (((t - 2 : Nat) : Int)) rfl rfl (by omega) (by omega)) ?_)
            | ((with_reducible refine at_dst 44 ?_); refine wpList_yield rfl _ (exec_ia0 ia176 _ _ rfl _ _ _ rfl rfl (by omega)) ?_)
            | ((with_reducible refine at_dst 45 ?_); refine wpList_yield rfl _ (exec_wload w94 _ rfl _ _ _ _ _ rfl ((d3)) (ex.out)) ?_)
            | ((with_reducible refine at_dst 50 ?_); refine wpList_yield rfl _ (exec_wxor _ _ rfl _ _ rfl rfl (by with_reducible repeat' first | assumption | exact ad_lt _ _ | exact u8_w32 _ | exact not_lt32 _ | exact mod_lt32 _ | refine xor_lt32 ?_ ?_ | refine or_lt32 ?_ ?_ | refine and_lt32 ?_ | refine rotr_lt _ _ ?_ | refine div_lt32 _ ?_) (by with_reducible repeat' first | assumption | exact ad_lt _ _ | exact u8_w32 _ | exact not_lt32 _ | exact mod_lt32 _ | refine xor_lt32 ?_ ?_ | refine or_lt32 ?_ ?_ | refine and_lt32 ?_ | refine rotr_lt _ _ ?_ | refine div_lt32 _ ?_)) ?_)
            | ((with_reducible refine at_dst 52 ?_); refine wpList_yield rfl _ (exec_wshr _ _ rfl _ 3 _ rfl rfl (by decide) 8 rfl) ?_)
            | ((with_reducible refine at_dst 53 ?_); refine wpList_yield rfl _ (exec_wxor _ _ rfl _ _ rfl rfl (by with_reducible repeat' first | assumption | exact ad_lt _ _ | exact u8_w32 _ | exact not_lt32 _ | exact mod_lt32 _ | refine xor_lt32 ?_ ?_ | refine or_lt32 ?_ ?_ | refine and_lt32 ?_ | refine rotr_lt _ _ ?_ | refine div_lt32 _ ?_) (by with_reducible repeat' first | assumption | exact ad_lt _ _ | exact u8_w32 _ | exact not_lt32 _ | exact mod_lt32 _ | refine xor_lt32 ?_ ?_ | refine or_lt32 ?_ ?_ | refine and_lt32 ?_ | refine rotr_lt _ _ ?_ | refine div_lt32 _ ?_)) ?_)
            | ((with_reducible refine at_dst 58 ?_); refine wpList_yield rfl _ (exec_wxor _ _ rfl _ _ rfl rfl (by with_reducible repeat' first | assumption | exact ad_lt _ _ | exact u8_w32 _ | exact not_lt32 _ | exact mod_lt32 _ | refine xor_lt32 ?_ ?_ | refine or_lt32 ?_ ?_ | refine and_lt32 ?_ | refine rotr_lt _ _ ?_ | refine div_lt32 _ ?_) (by with_reducible repeat' first | assumption | exact ad_lt _ _ | exact u8_w32 _ | exact not_lt32 _ | exact mod_lt32 _ | refine xor_lt32 ?_ ?_ | refine or_lt32 ?_ ?_ | refine and_lt32 ?_ | refine rotr_lt _ _ ?_ | refine div_lt32 _ ?_)) ?_)
            | ((with_reducible refine at_dst 60 ?_); refine wpList_yield rfl _ (exec_wshr _ _ rfl _ 10 _ rfl rfl (by decide) 1024 rfl) ?_)
            | ((with_reducible refine at_dst 61 ?_); refine wpList_yield rfl _ (exec_wxor _ _ rfl _ _ rfl rfl (by with_reducible repeat' first | assumption | exact ad_lt _ _ | exact u8_w32 _ | exact not_lt32 _ | exact mod_lt32 _ | refine xor_lt32 ?_ ?_ | refine or_lt32 ?_ ?_ | refine and_lt32 ?_ | refine rotr_lt _ _ ?_ | refine div_lt32 _ ?_) (by with_reducible repeat' first | assumption | exact ad_lt _ _ | exact u8_w32 _ | exact not_lt32 _ | exact mod_lt32 _ | refine xor_lt32 ?_ ?_ | refine or_lt32 ?_ ?_ | refine and_lt32 ?_ | refine rotr_lt _ _ ?_ | refine div_lt32 _ ?_)) ?_)
            | (go_at_call 140; with_reducible refine (X17 _).out.mono ?_; rintro e _ ⟨rfl, rfl⟩)
            | (go_at_call 140; with_reducible refine (X19 _).out.mono ?_; rintro e _ ⟨rfl, rfl⟩)
            | (go_at_call 140; with_reducible refine (Y7 _).out.mono ?_; rintro e _ ⟨rfl, rfl⟩)
            | (go_at_call 140; with_reducible refine (Y18 _).out.mono ?_; rintro e _ ⟨rfl, rfl⟩))
          refine rg_begin (fun W => W = wr.drew.drew.drew.drew.drew) [15] [15] [0, 1, 2, 3, 4, 5, 6, 7, 8, 9, 10, 11, 12, 13, 14, 15] 0 mixed (by kernel_rfl) (fun _ _ _ _ e hh => ⟨e.symm.trans hh.1, hh.2⟩) ?_
          simp only [pick, List.map_cons, List.map_nil, List.getD_cons_zero, List.getD_cons_succ]
          have hS2 : (fun W => W = wr.drew.drew.drew.drew.drew) _ := rfl
          refine rg_take (v := ?v2_0) rfl rfl hS2 ?y2_0 ?_
          case y2_0 => intro W hW; (try subst hW); go_simp; try with_reducible rfl
          simp only [Act.put, List.setIfInBounds_toArray, List.set_cons_zero, List.set_cons_succ]
          refine rg_take (v := ?v2_1) rfl rfl hS2 ?y2_1 ?_
          case y2_1 => intro W hW; (try subst hW); go_simp; try with_reducible rfl
          simp only [Act.put, List.setIfInBounds_toArray, List.set_cons_zero, List.set_cons_succ]
          refine rg_take (v := ?v2_2) rfl rfl hS2 ?y2_2 ?_
          case y2_2 => intro W hW; (try subst hW); go_simp; try with_reducible rfl
          simp only [Act.put, List.setIfInBounds_toArray, List.set_cons_zero, List.set_cons_succ]
          refine rg_take rfl rfl hS2 (fun W hW => exec_isub _ _ rfl _ _ (((t - 7 : Nat) : Int)) rfl rfl (by omega) (by omega)) ?_
          simp only [Act.put, List.setIfInBounds_toArray, List.set_cons_zero, List.set_cons_succ]
          refine rg_take rfl rfl hS2 (fun W hW => exec_ia0 ia176 _ _ rfl _ _ _ rfl rfl (by omega)) ?_
          simp only [Act.put, List.setIfInBounds_toArray, List.set_cons_zero, List.set_cons_succ]
          refine rg_take rfl rfl hS2 (fun W hW => exec_wload w94 _ rfl _ _ _ _ _ rfl ((by subst hW; exact d3.drew.drew.drew.drew.drew)) (ep.out)) ?_
          simp only [Act.put, List.setIfInBounds_toArray, List.set_cons_zero, List.set_cons_succ]
          refine rg_take rfl rfl hS2 (fun W hW => exec_wadd _ _ rfl _ _ rfl rfl) ?_
          simp only [Act.put, List.setIfInBounds_toArray, List.set_cons_zero, List.set_cons_succ]
          refine rg_take (v := ?v2_7) rfl rfl hS2 ?y2_7 ?_
          case y2_7 => intro W hW; (try subst hW); go_simp; try with_reducible rfl
          simp only [Act.put, List.setIfInBounds_toArray, List.set_cons_zero, List.set_cons_succ]
          refine rg_take rfl rfl hS2 (fun W hW => exec_wadd _ _ rfl _ _ rfl rfl) ?_
          simp only [Act.put, List.setIfInBounds_toArray, List.set_cons_zero, List.set_cons_succ]
          refine rg_take (v := ?v2_9) rfl rfl hS2 ?y2_9 ?_
          case y2_9 => intro W hW; (try subst hW); go_simp; try with_reducible rfl
          simp only [Act.put, List.setIfInBounds_toArray, List.set_cons_zero, List.set_cons_succ]
          refine rg_take rfl rfl hS2 (fun W hW => exec_isub _ _ rfl _ _ (((t - 16 : Nat) : Int)) rfl rfl (by omega) (by omega)) ?_
          simp only [Act.put, List.setIfInBounds_toArray, List.set_cons_zero, List.set_cons_succ]
          refine rg_take rfl rfl hS2 (fun W hW => exec_ia0 ia176 _ _ rfl _ _ _ rfl rfl (by omega)) ?_
          simp only [Act.put, List.setIfInBounds_toArray, List.set_cons_zero, List.set_cons_succ]
          refine rg_take rfl rfl hS2 (fun W hW => exec_wload w94 _ rfl _ _ _ _ _ rfl ((by subst hW; exact d3.drew.drew.drew.drew.drew)) (eq.out)) ?_
          simp only [Act.put, List.setIfInBounds_toArray, List.set_cons_zero, List.set_cons_succ]
          refine rg_take rfl rfl hS2 (fun W hW => exec_wadd _ _ rfl _ _ rfl rfl) ?_
          simp only [Act.put, List.setIfInBounds_toArray, List.set_cons_zero, List.set_cons_succ]
          refine rg_take rfl rfl hS2 (fun W hW => exec_ia0 ia176 _ _ rfl _ _ _ rfl rfl (by omega)) ?_
          simp only [Act.put, List.setIfInBounds_toArray, List.set_cons_zero, List.set_cons_succ]
          refine rg_one rfl rfl ?_; intro K hK
          refine wp_store_one one94 _ _ rfl _ _ _ _ _ rfl rfl rfl d3.drew.drew.drew.drew.drew HLen.out ?_
          have d3' : Blk ((wr.drew.drew.drew.drew.drew).setCell ⟨w.heap.size + 1, t, none⟩ (.int .u32 ((nn : Nat) : Int))) (w.heap.size + 1) 176 (wvs (cn ++ zw (64 - (t + 1)))) := by
            have := (Blk.drew (Blk.drew (Blk.drew (Blk.drew (Blk.drew d3))))).setw (i := t) (n := nn)
            rwa [HS.out] at this
          have d2' := (Blk.drew (Blk.drew (Blk.drew (Blk.drew (Blk.drew d2))))).far (p := ⟨w.heap.size + 1, t, none⟩) (by simp) (.int .u32 ((nn : Nat) : Int))
          have d4' := (Below.drew (Below.drew (Below.drew (Below.drew (Below.drew d4))))).setCell (p := ⟨w.heap.size + 1, t, none⟩) (by simp) (.int .u32 ((nn : Nat) : Int))
          rw [show ad (ad (ad (rotr x 17 ^^^ rotr x 19 ^^^ x / 1024) p) (rotr y 7 ^^^ rotr y 18 ^^^ y / 8)) q = nn from HN.out.symm]
          refine hK _ _ (fun h => by cases h) ?_; clear hK
          refine rg_done (by kernel_rfl) ?_
          go_wp2_with fail
          go_roundw
          case rel => exact ⟨t + 1, by omega, by omega, by go_num, cn, HC', HE', hlt', d2', d3', d4'⟩
          case measure => simp only [intOf]; omega
        · obtain rfl : t = 64 := by omega
          have HE2 : Hid (cur = sb) := Lib.hid (by have h := HE.out; rw [Nat.sub_self, ext_zero] at h; exact h)
          have d3' : Blk wr (w.heap.size + 1) 176 (wvs sb) := by
            rw [Nat.sub_self, HE2.out, show zw 0 = [] from rfl, List.append_nil] at d3
            exact d3
          clear HE HE2 HC hlt d3 HSE
          go_wp2_with (first
            | ((with_reducible refine at_dst 77 ?_); refine wpList_yield rfl _ (exec_load_agg at176 (.tmp 3) rfl _ 176 (wvs sb) rfl d3' (by rw [wvs_length]; exact HS64.out)) ?_)
            | ((with_reducible refine at_op (Op.store 176 (.tmp 2) (.tmp 77)) ?_); refine wpList_store_at at176.i rfl (.tmp 2) (.tmp 77) rfl w.heap.size 0 176 (wvs (zw 64)) (wvs sb) rfl rfl d2 (by rw [wvs_length]; exact HS64.out) (by rw [wvs_length, zw_length]; omega) (wvs_one _) ?_; intro w1 hb1 hg1 hs1))
          (try simp only [Exit.inBlock, Exit.then])
          rw [splice_all _ _ (by rw [wvs_length, wvs_length, zw_length]; exact HS64.out.symm)] at hb1
          refine bodyPost_ret (ret_cell rfl at176 _ _ w.heap.size 176 (wvs sb) rfl hb1 (by rw [wvs_length]; exact HS64.out)) rfl ?_
          exact ⟨rfl, d4.grown hg1 d4.size (by intro k hk; cases hk; omega)⟩
end Go.Proofs.Ytehbahobkgoapaa
