/- The reference's digest of a text. -/
import Derived.Test.YtehbahobkgoapaaWg
import Derived.Test.YtehbahobkgoapaaWh
namespace Go.Proofs.Ytehbahobkgoapaa
open Go Go.RowKit
set_option linter.unusedSimpArgs false
set_option linter.unusedVariables false

theorem at22w : AT Try.prog 22 32 := ⟨⟨_, Try.underlying22, rfl⟩, by kernel_rfl⟩
theorem ia22 : IA Try.prog 22 32 := ⟨⟨_, Try.underlying22, by kernel_rfl⟩⟩
theorem one5 : (Try.prog.info? 5).map (·.size) = some 1 := by kernel_rfl
def zb (n : Nat) : List UInt8 := List.replicate n 0
theorem zb_length (n : Nat) : (zb n).length = n := by simp [zb]
def sliceLen : Value → Nat
  | .slice _ n _ => n
  | _ => 0
/-- One byte in a new block. -/
theorem one_new (u : World) (x : UInt8) (v : Value) (hv : bv x = v) : Rd (u.alloc (.cells #[v] 5)) (some ⟨u.heap.size, 0, none⟩) (bvs [x]) := by
  subst hv
  exact Rd.of_blk0 (es := []) (by simpa [bvs] using Blk.new u 5 [bv x])
/-- While the text is ended: the result's block, the text so far. -/
structure SumW (N : Nat) (w wr : World) (v : Value) (l : List UInt8) : Prop where
  bel : Below N w wr
  out : Blk wr N 22 (bvs (zb 32))
  own : OwnB wr (N + 1) 5 v l
theorem SumW.push {N : Nat} {w wr w2 : World} {v v2 : Value} {l l2 : List UInt8} (h : SumW N w wr v l) (o : Obj) (hg : (wr.alloc o).grownBy w2 v.ownBlock) (ho : OwnB w2 (N + 1) 5 v2 l2) : SumW N w w2 v2 l2 := by
  have h1 := h.out.lt
  exact ⟨(h.bel.alloc (Nat.le_of_lt h1) o).grown hg (by simp; omega) (fun g e => by have := (h.own.lt g e).1; omega), (h.out.alloc o).grown hg (fun e => by have := (h.own.lt _ e.symm).1; omega), ho⟩
theorem SumW.step {N N2 : Nat} {w wr w1 w2 : World} {v : Value} {l : List UInt8} (h : SumW N w wr v l) (hb : Below wr.heap.size wr w1) (hg : w1.grownBy w2 (some N2)) (hN : N < N2) (hv : v.ownBlock ≠ some N2) : SumW N w w2 v l := by
  have h1 := h.out.lt
  have h2 := hb.size
  refine ⟨(h.bel.trans (hb.mono (by omega))).grown hg (by omega) (fun g e => by cases e; omega), (h.out.below hb h1).grown hg (fun e => by cases e; omega), (h.own.below hb (Nat.le_refl _)).grown hg (fun k hk e => by cases hk; exact hv e)⟩
theorem pow_256 (k : Nat) : 2 ^ (8 * k) = 256 ^ k := by rw [Nat.pow_mul]
theorem wrap_ofNat (m : Nat) : IntKind.u8.wrap (m : Int) = ((UInt8.ofNat m).toNat : Int) := by
  rw [IntKind.wrap_u8, UInt8.toNat_ofNat']; omega

set_option maxRecDepth 100000 in
set_option maxHeartbeats 4000000 in
theorem rsum_any (A : Option Addr) (n c : Nat) (b : List UInt8) (w : World) (hr : Rd w A (bvs b)) (hl : b.length = n) (hn : n ≤ 140737488351232) :
    Calls Try.prog 80 #[.slice A n c] w fun e w' => e = .returned (arr8 (shaL b)) ∧ Below w.heap.size w w' := by
  have HL := Lib.hid hl
  have hz0 : padz b.length < 64 := padz_lt _
  have ho0 : OwnB ((w.alloc (.cells (bvs (zb 32)).toArray 22)).alloc (.cells #[] 5)) (w.heap.size + 1) 5 (.slice (some ⟨w.heap.size + 1, 0, none⟩) 0 0) [] :=
    .inr ⟨w.heap.size + 1, [], rfl, by omega, by simp, by simpa [bvs] using Blk.new (w.alloc (.cells (bvs (zb 32)).toArray 22)) 5 []⟩
  have hr0 : Rd ((w.alloc (.cells (bvs (zb 32)).toArray 22)).alloc (.cells #[] 5)) A (bvs b) := (hr.alloc _).alloc _
  have hb0 : Blk ((w.alloc (.cells (bvs (zb 32)).toArray 22)).alloc (.cells #[] 5)) w.heap.size 22 (bvs (zb 32)) := (Blk.new _ _ _).alloc _
  have hw0 : Below w.heap.size w ((w.alloc (.cells (bvs (zb 32)).toArray 22)).alloc (.cells #[] 5)) := ((Below.refl _ _).alloc (Nat.le_refl _) _).alloc (by simp) _
  have HP : Hid (padTo b (padz n) ++ be 8 (8 * n) = pad b) := Lib.hid (by rw [← hl]; exact padTo_end b)
  have HPL : Hid ((pad b).length = 64 * ((n + 9 + padz n) / 64)) := Lib.hid (by rw [← hl]; exact pad_length b)
  have HPA : Hid ((hOf (pad b)).flatMap (be 4) = shaL b) := Lib.hid rfl
  have HHL := Lib.hid (hOf_length (pad b))
  have HHO : Hid (blocks ((pad b).length / 64) shaH (pad b) = hOf (pad b)) := Lib.hid rfl
  rw [hl] at hz0
  clear hl
  generalize shaL b = res at *
  generalize pad b = P at *
  unfold arr8
  go_enter Try.func80, Try.ntmps80
  go_upto_region 1 with fail
  go_upto_region 3 with (first
    | ((with_reducible refine at_dst 12 ?_)
       refine wpList_append_bytes bt rfl (.tmp 10) (.tmp 11) rfl (w.heap.size + 1) _ [] rfl ho0 A n c b rfl HL.out hr0 (by simp; omega) (by simp) ?_
       intro v1 w1 ho1 hg1 _
       have h1 : SumW w.heap.size w w1 v1 b := ⟨hw0.grown hg1 (by simp; omega) (fun g e => by have := (ho0.lt g e).1; omega), hb0.grown hg1 (fun e => by have := (ho0.lt _ e.symm).1; omega), ho1⟩
       clear ho0 hr0 hb0 hw0 ho1 hg1)
    | ((with_reducible refine at_dst 15 ?_)
       refine wpList_append_bytes bt rfl (.tmp 13) (.tmp 14) rfl (w.heap.size + 1) v1 b rfl (h1.own.below ((Below.refl w1.heap.size w1).alloc (Nat.le_refl _) _) (Nat.le_refl _)) (some ⟨w1.heap.size, 0, none⟩) 1 1 [128] rfl rfl (one_new w1 128 _ rfl) (by rw [HL.out]; omega) (by have := h1.out.lt; simp; omega) ?_
       intro v2 w2 ho2 hg2 _
       have h2 : SumW w.heap.size w w2 v2 (padTo b 0) := h1.push _ hg2 ho2
       clear h1 ho2 hg2))
  go_loopw [3] (fun v wr => ∃ j : Nat, j ≤ padz n ∧ SumW w.heap.size w wr v (padTo b j)) (fun v _ => n + 1 + 64 - sliceLen v)
  case atStart => exact ⟨0, by omega, h2⟩
  case round =>
    clear h2
    obtain ⟨j, hj, h2⟩ := hrel
    obtain ⟨A1, c1, rfl, h3, h4, _⟩ := h2.own.rd
    obtain ⟨r, hr1⟩ : ∃ r, (n + 1 + j) % 64 = r := ⟨_, rfl⟩
    have hst := padTo_stop n j hj
    rw [hr1] at hst
    obtain ⟨L, hL⟩ : ∃ L, (padTo b j).length = L := ⟨_, rfl⟩
    rw [hL] at h2 h3 ⊢
    have HLn : Hid (L = n + 1 + j) := Lib.hid (by rw [← hL, padTo_length, HL.out])
    have hLb : L ≤ n + 65 := by rw [HLn.out]; omega
    have HR1 : Hid (L % 64 = r) := Lib.hid (by rw [HLn.out]; exact hr1)
    have HLL := Lib.hid hL
    clear hr1 hL
    by_cases hjl : j = padz n
    · obtain rfl : r = 56 := hst.2 hjl
      subst hjl
      clear hst hj
      obtain ⟨T, hT0⟩ : ∃ T, 8 * n = T := ⟨_, rfl⟩
      have hT := Lib.hid hT0
      have HT : Hid (padTo b (padz n) ++ be 8 T = P) := Lib.hid (by rw [← hT.out]; exact HP.out)
      have hTb : (n : Int) * 8 = (T : Int) := by omega
      have HTB := Lib.hid hTb
      clear hT0 hTb
      go_upto_region 6 with (first
        | ((with_reducible refine at_dst 18 ?_); refine wpList_yield rfl _ (exec_irem _ _ rfl L 64 56 rfl rfl (by decide) HR1.out) ?_)
        | ((with_reducible refine at_dst 25 ?_); refine wpList_yield rfl _ (exec_conv Try.underlying3 Try.underlying175 _ rfl .i64 (n : Int) (n : Int) rfl rfl (by rw [IntKind.wrap_u64]; omega)) ?_)
        | ((with_reducible refine at_dst 26 ?_); refine wpList_yield rfl _ (exec_umul _ _ rfl (n : Int) 8 (T : Int) rfl rfl HTB.out (by have := HTB.out; omega)) ?_)
        )
      clear HP HR1 HLL
      go_wp2_with fail
      go_loopw [3, 5] (fun v i wr => ∃ (j : Nat) (l : List UInt8), j ≤ 8 ∧ i = .int .i64 ((j : Int) - 1) ∧ Hid (l ++ be j T = P) ∧ SumW w.heap.size w wr v l) (fun _ i _ => (intOf i + 1).toNat)
      case atStart => exact ⟨8, _, by omega, by go_num, HT, h2⟩
      case round =>
        clear h2 h3 h4 HT
        obtain ⟨j, l, hj, hi, hlp, h2⟩ := hrel
        have hll : l.length + j = 64 * ((n + 9 + padz n) / 64) := by
          have := congrArg List.length hlp.out
          rw [List.length_append, be_length, HPL.out] at this
          exact this
        obtain ⟨K, hK⟩ : ∃ K, (n + 9 + padz n) / 64 = K := ⟨_, rfl⟩
        rw [hK] at hll
        have hKn : 64 * K ≤ n + 9 + 64 := by omega
        have HPK : Hid (P.length = 64 * K) := Lib.hid (by rw [← hK]; exact HPL.out)
        clear hK HPL
        cases j with
        | succ k =>
          obtain rfl := hi.trans (show Value.int .i64 (((k + 1 : Nat) : Int) - 1) = .int .i64 (k : Int) by congr 1; omega)
          have hk0 : (0 : Int) ≤ (k : Int) := by omega
          obtain ⟨y, hy⟩ : ∃ y, y = UInt8.ofNat (T / 256 ^ k) := ⟨_, rfl⟩
          have HS : Hid ((l ++ [y]) ++ be k T = P) := Lib.hid (by rw [hy, be_snoc T k (by omega)]; exact hlp.out)
          have HW : Hid (IntKind.u8.wrap ((T / 256 ^ k : Nat) : Int) = (y.toNat : Int)) := Lib.hid (by rw [hy]; exact wrap_ofNat _)
          have HPW := Lib.hid (pow_256 k)
          clear hy hlp hi
          generalize 256 ^ k = pk at *
          have hlb : l.length + 1 ≤ 140737488355328 := by omega
          go_wp2_with (first
            | ((with_reducible refine at_dst 34 ?_); refine wpList_yield rfl _ (exec_imul _ _ rfl _ _ (((8 * k : Nat) : Int)) rfl rfl (by omega) (by omega)) ?_)
            | ((with_reducible refine at_dst 35 ?_); refine wpList_yield rfl _ (exec_ushr _ _ rfl T (8 * k) _ rfl rfl (by omega) pk HPW.out) ?_)
            | ((with_reducible refine at_dst 36 ?_); refine wpList_yield rfl _ (exec_conv Try.underlying175 Try.underlying5 _ rfl .u64 _ (y.toNat : Int) rfl rfl HW.out) ?_)
            | ((with_reducible refine at_dst 38 ?_)
               refine wpList_append_bytes bt rfl (.tmp 31) (.tmp 37) rfl (w.heap.size + 1) _ l rfl (h2.own.below ((Below.refl wr.heap.size wr).alloc (Nat.le_refl _) _) (Nat.le_refl _)) (some ⟨wr.heap.size, 0, none⟩) 1 1 [y] rfl rfl (one_new wr y _ rfl) hlb (by have := h2.out.lt; simp; omega) ?_
               intro v3 w3 ho3 hg3 _
               have h3 : SumW w.heap.size w w3 v3 (l ++ [y]) := h2.push _ hg3 ho3
               clear h2 ho3 hg3))
          go_roundw
          case rel => exact ⟨k, l ++ [y], by omega, by go_num, HS, h3⟩
          case measure => simp only [intOf]; omega
        | zero =>
          obtain rfl := hi.trans (show Value.int .i64 (((0 : Nat) : Int) - 1) = .int .i64 (-1) by rfl)
          obtain rfl : l = P := by have h := hlp.out; rwa [be, List.append_nil] at h
          clear hi hlp hj
          obtain ⟨A2, c2, rfl, h5, h6, h7⟩ := h2.own.rd
          rw [HPK.out] at h2 h5 ⊢
          obtain ⟨L2, hL2⟩ : ∃ L2, L2 = 64 * K := ⟨_, rfl⟩
          rw [← hL2] at h2 h5 ⊢
          have HL2 : Hid (L2 = 64 * K) := Lib.hid hL2
          have hLb2 : L2 ≤ n + 9 + 64 := by omega
          clear hL2 hll hKn
          have hN1 := h2.out.lt
          have bH0 : Blk (wr.alloc (.cells (wvs (zw 8)).toArray 96)) wr.heap.size 96 (wvs (zw 8)) := Blk.new _ _ _
          go_upto_region 11 with (first
            | ((with_reducible refine at_dst 39 ?_); refine wpList_yield rfl _ (exec_build _ rfl (wvs shaH).toArray (by kernel_rfl)) ?_)
            | ((with_reducible refine at_op (Op.store 96 (.tmp 6) (.tmp 39)) ?_); refine wpList_store_at at96.i rfl (.tmp 6) (.tmp 39) rfl wr.heap.size 0 96 (wvs (zw 8)) (wvs shaH) rfl rfl bH0 (by rw [wvs_length]; rfl) (by rw [wvs_length]; decide) (wvs_one _) ?_; intro w3 hb3 hg3 hs3))
          rw [splice_all _ _ (by rw [wvs_length, wvs_length]; rfl)] at hb3
          have hv : (Value.slice A2 L2 c2).ownBlock ≠ some wr.heap.size := fun e => by have := (h2.own.lt _ e).2; omega
          have h3 : SumW w.heap.size w w3 (.slice A2 L2 c2) l := h2.step ((Below.refl _ _).alloc (Nat.le_refl _) _) hg3 hN1 hv
          clear h2 h7 hg3 hs3 bH0
          generalize wr.heap.size = G at *
          have HLE : Hid (l.length = L2) := Lib.hid (by rw [HPK.out, HL2.out])
          clear HPK
          go_wp2_with fail
          go_loopw [7] (fun i wr => ∃ (p k : Nat), Hid (p = 64 * k) ∧ p ≤ L2 ∧ i = .int .i64 (p : Int) ∧ Blk wr G 96 (wvs (blocks k shaH l)) ∧ SumW w.heap.size w wr (.slice A2 L2 c2) l) (fun i _ => L2 - (intOf i).toNat)
          case atStart => exact ⟨0, 0, rfl, by omega, by go_num, hb3, h3⟩
          case round =>
            clear h3 hb3
            obtain ⟨p, k, HPk, hpL, rfl, bH, h3⟩ := hrel
            by_cases hlt : p < L2
            · have hp64 : p + 64 ≤ L2 := by have e1 := HPk.out; have e2 := HL2.out; omega
              have hpz : (p : Int) < (L2 : Int) := by omega
              obtain ⟨A3, c3, e3, h7, h8, h9⟩ := h3.own.rd
              injection e3 with e4 e5 e6
              subst e4; subst e6
              clear e5 h7 h8
              obtain ⟨ch, hch⟩ : ∃ ch, ch = (l.drop p).take 64 := ⟨_, rfl⟩
              have hcl : ch.length = 64 := by rw [hch, List.length_take, List.length_drop, HLE.out]; omega
              have hrd : Rd wr (cutA A2 c2 p 1) (bvs ch) := by
                have h1 := h9.cutA (c := c2) (lo := p) (z := 1) (by rw [bvs_length, HLE.out]; omega) 64
                have e : ((bvs l).drop (p * 1)).take 64 = bvs ch := by
                  rw [Nat.mul_one, hch]
                  unfold bvs
                  rw [← List.map_drop, ← List.map_take]
                rwa [e] at h1
              have HS : Hid (blocks (k + 1) shaH l = step (blocks k shaH l) ch) := Lib.hid (by rw [blocks_one, hch, HPk.out])
              have HPk' : Hid (p + 64 = 64 * (k + 1)) := Lib.hid (by rw [HPk.out]; omega)
              have hkl := blocks_length k shaH l rfl
              have hkt := blocks_lt k shaH l shaH_lt
              clear hch h9 HPk
              obtain ⟨Hk1, hHk1⟩ : ∃ x, x = blocks (k + 1) shaH l := ⟨_, rfl⟩
              rw [← hHk1] at HS
              have HKE := Lib.hid hHk1
              clear hHk1
              generalize blocks k shaH l = Hk at bH HS hkl hkt
              have HKL := Lib.hid hkl
              have C : ∀ W, Below wr.heap.size wr W → Hid (Calls Try.prog 82 #[.agg (wvs Hk).toArray, .slice (cutA A2 c2 p 1) 64 (c2 - p)] W fun e w' => e = .returned (.agg (wvs (step Hk ch)).toArray) ∧ Below W.heap.size W w') :=
                fun W hb => Lib.hid (rstep_any Hk _ _ _ ch W hkl hkt (hrd.below hb) rfl hcl)
              have HSL := Lib.hid (step_length Hk ch)
              clear hkl hkt hrd hcl
              rw [← HS.out] at C HSL
              clear HS
              go_upto_region 14 with fail
              refine rg_begin (Below wr.heap.size wr) [7] [6, 7] [0, 1, 2, 3, 4, 5, 6, 7] 0 mixed (by kernel_rfl) (fun _ _ _ _ e hh => ⟨e.symm.trans hh.1, hh.2⟩) ?_
              simp only [pick, List.map_cons, List.map_nil, List.getD_cons_zero, List.getD_cons_succ]
              have hS : (Below wr.heap.size wr) _ := (Below.refl _ _).drew
              refine rg_take rfl rfl hS (fun W hW => exec_load_agg at96 (.tmp 6) rfl G 96 (wvs Hk) rfl (bH.below hW bH.lt) (by rw [wvs_length]; exact HKL.out)) ?_
              simp only [Act.put, List.setIfInBounds_toArray, List.set_cons_zero, List.set_cons_succ]
              refine rg_take (v := ?v1_1) rfl rfl hS ?y1_1 ?_
              case y1_1 => intro W hW; (try subst hW); go_simp; try with_reducible rfl
              simp only [Act.put, List.setIfInBounds_toArray, List.set_cons_zero, List.set_cons_succ]
              refine rg_take (v := ?v1_2) rfl rfl hS ?y1_2 ?_
              case y1_2 => intro W hW; (try subst hW); go_simp; try with_reducible rfl
              simp only [Act.put, List.setIfInBounds_toArray, List.set_cons_zero, List.set_cons_succ]
              refine rg_take (v := ?v1_3) rfl rfl hS ?y1_3 ?_
              case y1_3 => intro W hW; (try subst hW); go_simp; try with_reducible rfl
              simp only [Act.put, List.setIfInBounds_toArray, List.set_cons_zero, List.set_cons_succ]
              refine rg_take rfl rfl hS (fun W hW => exec_iadd _ _ rfl _ _ (((p + 64 : Nat) : Int)) rfl rfl (by omega) (by omega)) ?_
              simp only [Act.put, List.setIfInBounds_toArray, List.set_cons_zero, List.set_cons_succ]
              refine rg_take rfl rfl hS (fun W hW => exec_slice_mid st24 _ _ _ rfl A2 L2 c2 p (p + 64) .i64 .i64 rfl rfl rfl (by omega) (by omega)) ?_
              simp only [Act.put, List.setIfInBounds_toArray, List.set_cons_zero, List.set_cons_succ]
              refine rg_one rfl rfl ?_; intro K hK; go_simp
              with_reducible refine (C _ hS).out.mono ?_
              rintro e w4 ⟨rfl, hw4⟩
              have hS1 : Below wr.heap.size wr w4 := Below.trans hS (hw4.mono (Below.size hS))
              refine hK _ _ (fun _ => hS1) ?_; clear hK
              refine rg_one rfl rfl ?_; intro K hK
              refine wp_store_at at96.i (.tmp 6) (.tmp 52) rfl G 0 96 (wvs Hk) (wvs Hk1) rfl rfl (bH.below hS1 bH.lt) (by rw [wvs_length]; exact HSL.out) (by rw [wvs_length, HKL.out]; exact Nat.le_refl 8) (wvs_one _) ?_
              intro w5 hb5 hg5 hs5
              refine hK _ _ (fun h => by cases h) ?_; clear hK
              refine rg_done (by kernel_rfl) ?_
              rw [splice_all _ _ (by rw [wvs_length, wvs_length, HKL.out, HSL.out])] at hb5
              have h4 := h3.step hS1 hg5 hN1 hv
              clear h3 hS1 hg5 hs5 hw4 bH
              go_wp2_with fail
              go_roundw
              case rel => exact ⟨p + 64, k + 1, HPk', by omega, by go_num, by rw [← HKE.out]; exact hb5, h4⟩
              case measure => simp only [intOf]; omega
            · obtain rfl : p = L2 := by omega
              have HB : Hid (blocks k shaH l = hOf l) := Lib.hid (by rw [← HHO.out, HLE.out, HPk.out, Nat.mul_div_cancel_left k (by decide)])
              rw [HB.out] at bH
              obtain ⟨e1, e2, ho3⟩ := h3
              clear HB HHO hlt hpL HPk HLE HL2 h5 h6 hv ho3
              generalize hOf l = H at *
              have bO : Blk (wr.alloc (.cells (bvs (zb 32)).toArray 22)) wr.heap.size 22 (bvs (outB H 0)) := by rw [outB_zero]; exact Blk.new _ _ _
              have bH1 := bH.alloc (.cells (bvs (zb 32)).toArray 22)
              have bN := e2.alloc (.cells (bvs (zb 32)).toArray 22)
              have bW := e1.alloc (Nat.le_of_lt e2.lt) (.cells (bvs (zb 32)).toArray 22)
              have hGG := bH.lt
              have hOL := Lib.hid (fun (q : Nat) (hq : q ≤ 32) => outB_length H q HHL.out hq)
              have hOS := Lib.hid (fun (q : Nat) (hq : q < 32) => outB_step H q HHL.out hq)
              have hOE : Hid (outB H 32 = res) := Lib.hid (by rw [outB_end H HHL.out]; exact HPA.out)
              have hHlt : Hid (∀ d, d < 8 → H[d]? = some (H.getD d 0)) := Lib.hid (fun d hd => getD_some H d (by rw [HHL.out]; exact hd))
              clear HPA bH e1 e2
              go_upto_region 16 with fail
              generalize hW : World.alloc wr _ = w6
              have h7 : Blk w6 wr.heap.size 22 (bvs (outB H 0)) ∧ Blk w6 G 96 (wvs H) ∧ Blk w6 w.heap.size 22 (bvs (zb 32)) ∧ Below w.heap.size w w6 := by rw [← hW]; exact ⟨bO, bH1, bN, bW⟩
              clear hW bO bH1 bN bW
              obtain ⟨f1, f2, f3, f4⟩ := h7
              generalize wr.heap.size = G3 at *
              go_wp2_with fail
              go_loopw [9] (fun i wr => ∃ q : Nat, q ≤ 32 ∧ i = .int .i64 (q : Int) ∧ Blk wr G3 22 (bvs (outB H q)) ∧ Blk wr G 96 (wvs H) ∧ Blk wr w.heap.size 22 (bvs (zb 32)) ∧ Below w.heap.size w wr) (fun i _ => 32 - (intOf i).toNat)
              case atStart => exact ⟨0, by omega, by go_num, f1, f2, f3, f4⟩
              case round =>
                clear f1 f2 f3 f4
                obtain ⟨q, hq, rfl, f1, f2, f3, f4⟩ := hrel
                by_cases hql : q < 32
                · have hqz : (q : Int) < 32 := by omega
                  obtain ⟨d, hd⟩ : ∃ d, q / 4 = d := ⟨_, rfl⟩
                  obtain ⟨m, hm⟩ : ∃ m, q % 4 = m := ⟨_, rfl⟩
                  have hd8 : d < 8 := by omega
                  have hm4 : m < 4 := by omega
                  obtain ⟨x, hx⟩ : ∃ x, x = H.getD d 0 := ⟨_, rfl⟩
                  obtain ⟨S, hS⟩ : ∃ S, 24 - 8 * m = S := ⟨_, rfl⟩
                  have hS1 : S + 8 * m ≤ 24 := by omega
                  have hS2 : 24 ≤ S + 8 * m := by omega
                  obtain ⟨D, hD⟩ : ∃ D, 2 ^ S = D := ⟨_, rfl⟩
                  obtain ⟨y, hy⟩ : ∃ y, y = UInt8.ofNat (x / D) := ⟨_, rfl⟩
                  have ex : Hid (H[d]? = some x) := Lib.hid (by rw [hx]; exact hHlt.out d hd8)
                  have HS : Hid ((outB H q).set q y = outB H (q + 1)) := Lib.hid (by rw [hy, ← hD, ← hS, hx, ← hm, ← hd]; exact hOS.out q hql)
                  have HW : Hid (IntKind.u8.wrap ((x / D : Nat) : Int) = (y.toNat : Int)) := Lib.hid (by rw [hy]; exact wrap_ofNat _)
                  have HD := Lib.hid hd
                  have HM := Lib.hid hm
                  have HQL := Lib.hid (hOL.out q hq)
                  have HPD := Lib.hid hD
                  clear hx hy hd hm hS hD
                  go_upto_region 19 with fail
                  refine wp_region_lit ?_
                  refine wpList_yield rfl _ (exec_move _ rfl) ?_
                  simp only [Act.put, List.setIfInBounds_toArray, List.set_cons_zero, List.set_cons_succ]
                  refine wpList_yield rfl _ (exec_move _ rfl) ?_
                  simp only [Act.put, List.setIfInBounds_toArray, List.set_cons_zero, List.set_cons_succ]
                  refine wpList_yield rfl _ (exec_iquo _ _ rfl q 4 d rfl rfl (by decide) HD.out (by omega)) ?_
                  simp only [Act.put, List.setIfInBounds_toArray, List.set_cons_zero, List.set_cons_succ]
                  refine wpList_yield rfl _ (exec_ia0 ia96 _ _ rfl _ _ _ rfl rfl (by omega)) ?_
                  simp only [Act.put, List.setIfInBounds_toArray, List.set_cons_zero, List.set_cons_succ]
                  refine wpList_yield rfl _ (exec_wload w94 _ rfl _ _ _ _ _ rfl ((f2)) (ex.out)) ?_
                  simp only [Act.put, List.setIfInBounds_toArray, List.set_cons_zero, List.set_cons_succ]
                  refine wpList_yield rfl _ (exec_move _ rfl) ?_
                  simp only [Act.put, List.setIfInBounds_toArray, List.set_cons_zero, List.set_cons_succ]
                  refine wpList_yield rfl _ (exec_irem _ _ rfl q 4 m rfl rfl (by decide) HM.out) ?_
                  simp only [Act.put, List.setIfInBounds_toArray, List.set_cons_zero, List.set_cons_succ]
                  refine wpList_yield rfl _ (exec_imul _ _ rfl _ _ (((8 * m : Nat) : Int)) rfl rfl (by omega) (by omega)) ?_
                  simp only [Act.put, List.setIfInBounds_toArray, List.set_cons_zero, List.set_cons_succ]
                  refine wpList_yield rfl _ (exec_isub _ _ rfl _ _ (((S : Nat) : Int)) rfl rfl (by omega) (by omega)) ?_
                  simp only [Act.put, List.setIfInBounds_toArray, List.set_cons_zero, List.set_cons_succ]
                  refine wpList_yield rfl _ (exec_wshr _ _ rfl x S _ rfl rfl (by omega) D HPD.out) ?_
                  simp only [Act.put, List.setIfInBounds_toArray, List.set_cons_zero, List.set_cons_succ]
                  refine wpList_yield rfl _ (exec_conv Try.underlying94 Try.underlying5 _ rfl .u32 _ (y.toNat : Int) rfl rfl HW.out) ?_
                  simp only [Act.put, List.setIfInBounds_toArray, List.set_cons_zero, List.set_cons_succ]
                  refine wpList_yield rfl _ (exec_ia0 ia22 _ _ rfl _ q _ rfl rfl (by omega)) ?_
                  simp only [Act.put, List.setIfInBounds_toArray, List.set_cons_zero, List.set_cons_succ]
                  refine wpList_store_one rfl one5 (.tmp 68) (.tmp 67) rfl G3 q 22 (bvs (outB H q)) (.int .u8 (y.toNat : Int)) rfl rfl rfl f1 (by rw [bvs_length, HQL.out]; exact hql) ?_
                  (try simp only [Act.put, List.setIfInBounds_toArray, List.set_cons_zero, List.set_cons_succ])
                  refine wpList_nil ?_
                  go_wp2_with fail
                  go_roundw
                  case rel =>
                    have f1' : Blk (wr.setCell ⟨G3, q, none⟩ (.int .u8 (y.toNat : Int))) G3 22 (bvs (outB H (q + 1))) := by
                      have h := f1.set_ q (bv y)
                      rwa [set_bvs, HS.out] at h
                    exact ⟨q + 1, by omega, by go_num, f1', f2.far (by simp; omega) _, f3.far (by simp; omega) _, f4.setCell (by simp; omega) _⟩
                  case measure => simp only [intOf]; omega
                · obtain rfl : q = 32 := by omega
                  rw [hOE.out] at f1
                  have hrl : Hid (res.length = 32) := Lib.hid (by rw [← hOE.out]; exact hOL.out 32 (Nat.le_refl _))
                  clear hOE hOL hOS hHlt
                  go_wp2_with (first
                    | ((with_reducible refine at_dst 69 ?_); refine wpList_yield rfl _ (exec_load_agg at22w (.tmp 8) rfl _ 22 (bvs res) rfl f1 (by rw [bvs_length]; exact hrl.out)) ?_)
                    | ((with_reducible refine at_op (Op.store 22 (.tmp 2) (.tmp 69)) ?_); refine wpList_store_at at22w.i rfl (.tmp 2) (.tmp 69) rfl w.heap.size 0 22 (bvs (zb 32)) (bvs res) rfl rfl f3 (by rw [bvs_length]; exact hrl.out) (by rw [bvs_length, zb_length]; omega) (bvs_one _) ?_; intro w1 hb1 hg1 hs1))
                  (try simp only [Exit.inBlock, Exit.then])
                  rw [splice_all _ _ (by rw [bvs_length, bvs_length, zb_length]; exact hrl.out.symm)] at hb1
                  refine bodyPost_ret (ret_cell rfl at22w _ _ w.heap.size 22 (bvs res) rfl hb1 (by rw [bvs_length]; exact hrl.out)) rfl ?_
                  exact ⟨rfl, f4.grown hg1 f4.size (by intro k hk; cases hk; omega)⟩
    · have hrne : ((r : Int) == 56) = false := by
        have h := fun e => hjl (hst.1 e)
        simp; omega
      clear hst
      go_wp2_with (first
        | ((with_reducible refine at_dst 18 ?_); refine wpList_yield rfl _ (exec_irem _ _ rfl L 64 r rfl rfl (by decide) HR1.out) ?_)
        | ((with_reducible refine at_dst 22 ?_)
           refine wpList_append_bytes bt rfl (.tmp 20) (.tmp 21) rfl (w.heap.size + 1) _ (padTo b j) rfl (h2.own.below ((Below.refl wr.heap.size wr).alloc (Nat.le_refl _) _) (Nat.le_refl _)) (some ⟨wr.heap.size, 0, none⟩) 1 1 [0] rfl rfl (one_new wr 0 _ rfl) (by rw [HLL.out]; omega) (by have := h2.out.lt; simp; omega) ?_
           intro v3 w3 ho3 hg3 _
           have h3 : SumW w.heap.size w w3 v3 (padTo b (j + 1)) := by
             have h := h2.push _ hg3 ho3
             rwa [padTo_succ] at h
           clear h2 hg3))
      go_roundw
      case rel => exact ⟨j + 1, by omega, h3⟩
      case measure =>
        obtain ⟨A4, c4, e4, _, _, _⟩ := h3.own.rd
        have e5 : (padTo b (j + 1)).length = L + 1 := by rw [padTo_length, HLn.out, HL.out]; omega
        rw [e4, e5]
        simp only [sliceLen]
        have e6 := HLn.out
        omega
end Go.Proofs.Ytehbahobkgoapaa
