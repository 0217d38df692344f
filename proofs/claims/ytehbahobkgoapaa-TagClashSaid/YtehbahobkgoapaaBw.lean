/- The walk of OctetBack: it says true for every bytes, text, sizes and numbers. -/
import Derived.Test.YtehbahobkgoapaaBv
import Derived.Test.YtehbahobkgoapaaHx
import Derived.Test.YtehbahobkgoapaaRa
import Derived.Test.YtehbahobkgoapaaRw
import Derived.Deep.Cut
import Derived.Deep.CutRange
namespace Go.Proofs.Ytehbahobkgoapaa
open Go Go.RowKit
set_option linter.unusedSimpArgs false
set_option linter.unusedVariables false

set_option maxRecDepth 100000 in
set_option maxHeartbeats 4000000 in
theorem octet_back (A : Option Addr) (n c : Nat) (l : List UInt8) (t : List UInt8) (As : Option Addr) (ns cs : Nat) (zs : List Int) (u v : Int) (w : World) (hr : Rd w A (bvs l)) (hl : l.length = n) (hn : n ≤ 140737488351232) (ht : t.length ≤ 9223372036854775807)
    (hs : Rd w As (intC zs)) (hsl : zs.length = ns) (hns : ns ≤ 9223372036854775807) (hrng : ∀ z ∈ zs, -9223372036854775808 ≤ z ∧ z ≤ 9223372036854775807) (hu : 0 ≤ u ∧ u ≤ 65535) (hv : 0 ≤ v ∧ v ≤ 4294967295) :
    Calls Try.prog 11 #[.slice A n c, .string ⟨t.toArray⟩, .slice As ns cs, .int .u16 u, .int .u32 v] w fun e w' => e = .returned (.bool true) ∧ Below w.heap.size w w' := by
  have HL := Lib.hid hl
  have HSL := Lib.hid hsl
  have HR := Lib.hid hrng
  have HX := Lib.hid (fun W => hex_any A n c l W)
  have hh2 : (hexL l).length ≤ 9223372036854775807 := by
    unfold hexL
    split
    · simp
    · rw [hexs_length]; omega
  have HU1 := Lib.hid (fun W => unhex_any (hexL l) W hh2)
  have HU2 := Lib.hid (fun W => unhex_any t W ht)
  have HB1 := Lib.hid (back_bytes l)
  have HB2 := Lib.hid (back_text t)
  have hul := unhexL_len t
  clear hl hsl hrng hh2 ht
  generalize hexL l = hx at *
  generalize unhexL t = u2 at *
  generalize unhexE t = e2 at *
  generalize unhexL hx = u1 at *
  generalize unhexE hx = e1 at *
  go_enter Try.func11, Try.ntmps11
  go_upto_region 2 with (first
    | (go_at_call 60; with_reducible refine (HX.out w hr HL.out hn).mono ?_; rintro e w1 ⟨rfl, hw1⟩)
    | (go_at_call 58; with_reducible refine (HU1.out w1).mono ?_; rintro e w2 ⟨v2, rfl, ho2, hw2⟩; obtain ⟨A2, c2, rfl, hc2, hm2, hd2⟩ := ho2.rd))
  have hB2 : Below w.heap.size w w2 := hw1.trans (hw2.mono hw1.size)
  go_cut [41] from 29 to 41 (fun x wx => x = .bool false ∧ wx = w2)
  case first =>
    by_cases hsm : n ≤ 32768
    · obtain ⟨hb1, hb2⟩ := HB1.out (by rw [HL.out]; exact hsm)
      subst hb1
      subst hb2
      go_wp2_with (go_at_call 33; refine (same_bytes A2 u1.length c2 u1 A n c u1 w2 hd2 rfl (hr.below hB2) HL.out).mono ?_; rintro e w3 ⟨rfl, rfl⟩; rw [beq_self_eq_true])
      go_meet
      case rel => exact ⟨rfl, rfl⟩
    · have hb : 32768 < n := by omega
      go_wp2_with fail
      go_meet
      case rel => exact ⟨by first | rfl | (congr 1; simp; omega), rfl⟩
  case rest =>
    obtain ⟨rfl, rfl⟩ := hcut
    clear HB1 HU1 HX hw1 hw2 hd2 ho2 hc2 hm2
    go_upto_region 5 with (go_at_call 58; with_reducible refine (HU2.out _).mono ?_; rintro e w3 ⟨v3, rfl, ho3, hw3⟩; obtain ⟨A3, c3, rfl, hc3, hm3, hd3⟩ := ho3.rd)
    have hB3 : Below w.heap.size w w3 := hB2.trans (hw3.mono hB2.size)
    obtain ⟨w2, rfl⟩ : ∃ W, W = wc := ⟨_, rfl⟩
    have HH := Lib.hid (fun W hd => hex_any A3 u2.length c3 u2 W hd rfl (by omega))
    have HH0 := Lib.hid (fun W => hex_any none 0 0 [] W (Rd.nil _ _) rfl (by omega))
    rw [show hexL [] = [45] from rfl] at HH0
    generalize hexL u2 = h2 at *
    go_cut [58] from 47 to 58 (fun x wx => x = .bool false ∧ Below w3.heap.size w3 wx)
    case first =>
      by_cases he : e2 = 0
      · have hh := HB2.out he
        subst he
        have HHT := Lib.hid hh
        clear hh
        rw [HHT.out] at HH
        go_wp2_with (go_at_call 60
                     first
                      | (with_reducible refine (HH0.out _).mono ?_; rintro e w5 ⟨rfl, h5⟩)
                      | (with_reducible refine (HH.out w3 hd3).mono ?_; rintro e w4 ⟨rfl, h4⟩))
        go_meet
        case rel => exact ⟨rfl, h4.trans (h5.mono h4.size)⟩
      · have heb : (e2 == 0) = false := by simpa using he
        go_wp2_with (go_at_call 60; with_reducible refine (HH0.out w3).mono ?_; rintro e w5 ⟨rfl, h5⟩)
        go_meet
        case rel => exact ⟨rfl, h5⟩
    case rest =>
      obtain ⟨rfl, h_wc⟩ := hcut
      obtain ⟨w5, rfl⟩ : ∃ W, W = wc := ⟨_, rfl⟩
      have hB5 := hB3.trans (h_wc.mono hB3.size)
      clear HH HH0 HB2 hd3 ho3 hw3 h_wc hm3
      go_upto_region 10 with (go_at_call 41; refine (new_any A n c l w5 (hr.below hB5) HL.out hn).mono ?_; rintro e w7 ⟨g, A7, c7, rfl, hm7⟩)
      have hB7 : Below w.heap.size w w7 := hB5.trans (hm7.bel.mono hB5.size)
      have hgl : g < w7.heap.size := hm7.blk.lt
      have hgw : w.heap.size ≤ g := Nat.le_trans hB5.size hm7.new
      obtain ⟨S, hSd⟩ : ∃ S : Nat → Prop, S = fun k => k = g ∨ w7.heap.size ≤ k := ⟨_, rfl⟩
      have hSg : S g := by rw [hSd]; exact .inl rfl
      have hSn : ∀ k, w7.heap.size ≤ k → S k := by intro k hk; rw [hSd]; exact .inr hk
      have hSw : ∀ k, S k → w.heap.size ≤ k := by
        intro k hk
        rw [hSd] at hk
        rcases hk with hk | hk <;> omega
      have hP7 : RdP S w7 g (some l) := by
        refine ⟨A7, n, c7, ?_, HL.out, by have := hm7.cap; rw [HL.out] at this; exact this, hm7.max, hm7.rd, ?_⟩
        · have := hm7.blk
          rw [HL.out] at this
          exact this
        · intro ad e hk
          have := hm7.far ad e
          rw [hSd] at hk
          rcases hk with hk | hk <;> omega
      have hs7 : Rd w7 As (intC zs) := hs.below hB7
      have hr7 : Rd w7 A (bvs l) := hr.below hB7
      have hAs : Hid (0 < zs.length → ∀ ad, As = some ad → ¬ S ad.block) := by
        intro h0 ad e hk
        obtain ⟨ad', e', hc⟩ := hs (by unfold intC; simpa using h0)
        rw [e] at e'
        cases e'
        have h1 := World.block_lt_of_cell? w _ (hc 0 _ (intC_get zs 0 h0))
        rw [addr_block] at h1
        have := hSw _ hk
        omega
      have hAr : Hid (∀ W, Fr S w7 W → Rd W A (bvs l)) := by
        intro W hW h0
        obtain ⟨ad, e, hc⟩ := hr h0
        have h1 := World.block_lt_of_cell? w _ (hc 0 _ (List.getElem?_eq_getElem h0))
        rw [addr_block] at h1
        exact (hr7.fr hW (fun ad' e' hk => by rw [e] at e'; cases e'; have := hSw _ hk; omega)) h0
      clear hSd hm7 hB5 hs hr hr7
      go_wp2_with fail
      go_loopw [16, 17] (fun out i wr => ∃ k : Nat, k ≤ ns ∧ i = .int .i64 (k : Int) ∧ (∃ got rest, OwnB wr w7.heap.size 5 out got ∧ RdP S wr g (some rest) ∧ Hid (got ++ rest = l)) ∧ Fr S w7 wr) (fun _ i _ => ns - (intOf i).toNat)
      case atStart => exact ⟨0, by omega, by go_num, ⟨[], l, OwnB.nil _ _ _, hP7, rfl⟩, Fr.refl _ _⟩
      case round =>
        obtain ⟨k, hk, rfl, ⟨got, rest, ho, hp, hgr⟩, hfr⟩ := hrel
        obtain ⟨wq, rfl⟩ : ∃ wq : World, wq = wr := ⟨_, rfl⟩
        have HLf := Lib.hid (fun W (hW : RdP S W g (some rest)) => left_any g (some rest) W hW)
        have hlen : got.length + rest.length = n := by rw [← HL.out, ← hgr.out]; simp
        obtain ⟨m, hm⟩ : ∃ m, m = rest.length := ⟨_, rfl⟩
        have hlf : leftN (some rest) = m := hm.symm
        rw [hlf] at HLf
        clear hlf
        have HM := Lib.hid hm
        have hmr : m ≤ 140737488351232 := by omega
        clear hm
        go_upto_region 12 with fail
        go_cut [71] from 63 to 85 (fun x wx => x = .bool (decide (k < ns ∧ 0 < m)) ∧ wx = wq)
        case first =>
          by_cases h1 : k < ns
          · go_wp2_with (go_at_call 45; refine (HLf.out wq hp).mono ?_; rintro e w8 ⟨rfl, rfl⟩)
            go_meet
            case rel => exact ⟨congrArg Value.bool (by simp [h1]), rfl⟩
          · have h1' : ns ≤ k := by omega
            go_wp2_with fail
            go_meet
            case rel => exact ⟨congrArg Value.bool (by simp [h1]), rfl⟩
        case rest =>
        obtain ⟨rfl, rfl⟩ := hcut
        obtain ⟨wq, rfl⟩ : ∃ W, W = wc := ⟨_, rfl⟩
        by_cases hgo : k < ns ∧ 0 < m
        · have hkz : k < zs.length := by rw [HSL.out]; exact hgo.1
          obtain ⟨ad, rfl, hcc⟩ := hs7 (by unfold intC; simp; omega)
          have hc0 : wq.cell? (ad.add k) = some (.int .i64 zs[k]) := hfr.cell (hcc k _ (intC_get zs k hkz)) (by rw [addr_block]; exact hAs.out (by omega) ad rfl)
          have hzr := HR.out zs[k] (List.getElem_mem hkz)
          generalize zs[k] = z at *
          have hpk := pickOf_bd z ((m : Int) + 1) (by omega)
          have CP := Lib.hid (fun W => pick_any z ((m : Int) + 1) W (by omega) (by omega) hzr)
          generalize pickOf z ((m : Int) + 1) = q at *
          obtain ⟨q, rfl⟩ := Int.eq_ofNat_of_zero_le hpk.1
          have hqm : q ≤ rest.length := by have := HM.out; omega
          have hTk := fun W hW => take_any (S := S) g (some rest) q W hW hSg (by omega) (by intro l' e; cases e; omega)
          rw [takeL_in rest q hqm, takeS_in rest q hqm] at hTk
          have HT := Lib.hid hTk
          clear hTk
          have kw : IntKind.i64.wrap ((m : Int) + 1) = (m : Int) + 1 := IntWalk.i64_in _ (by omega)
          have htd := List.take_append_drop q rest
          have htl : (rest.take q).length = q := by simp; omega
          have hdl : (rest.drop q).length = rest.length - q := by simp
          have HD := Lib.hid (show (got ++ rest.take q) ++ rest.drop q = l by rw [List.append_assoc, htd]; exact hgr.out)
          generalize rest.take q = tk at *
          generalize rest.drop q = dr at *
          have hdt : decide (k < ns ∧ 0 < m) = true := by simpa using hgo
          rw [hdt]
          have hlk : (k : Int) < (ns : Int) := by omega
          have hrk := hp
          clear hdt htd
          have hnS : ¬ S (ad.add k).block := by rw [addr_block]; exact hAs.out (by omega) ad rfl
          have hpd : RdP S wq.drew g (some rest) := hp.fr (T := fun _ => False) ((Fr.refl _ _).drew) id (fun _ hk => hk.elim)
          have hsz7 : w7.heap.size ≤ wq.heap.size := hfr.size
          go_wp2_with fail
          refine rg_begin (fun W => Fr S wq W) [] [7, 9, 10, 11] [0, 1, 2, 3, 4, 5, 6, 7, 8, 9, 10, 11, 12] 0 mixed (by kernel_rfl) (fun _ _ _ _ e hh => ⟨e.symm.trans hh.1, hh.2⟩) ?_
          simp only [pick, List.map_cons, List.map_nil, List.getD_cons_zero, List.getD_cons_succ]
          have hS : (fun W => Fr S wq W) _ := (Fr.refl _ _).drew
          refine rg_take (v := ?v1_0) rfl rfl hS ?y1_0 ?_
          case y1_0 => intro W hW; (try subst hW); go_simp; try with_reducible rfl
          simp only [Act.put, List.setIfInBounds_toArray, List.set_cons_zero, List.set_cons_succ]
          refine rg_take (v := ?v1_1) rfl rfl hS ?y1_1 ?_
          case y1_1 => intro W hW; (try subst hW); go_simp; try with_reducible rfl
          simp only [Act.put, List.setIfInBounds_toArray, List.set_cons_zero, List.set_cons_succ]
          refine rg_take (v := ?v1_2) rfl rfl hS ?y1_2 ?_
          case y1_2 => intro W hW; (try subst hW); go_simp; try with_reducible rfl
          simp only [Act.put, List.setIfInBounds_toArray, List.set_cons_zero, List.set_cons_succ]
          refine rg_take (v := ?v1_3) rfl rfl hS ?y1_3 ?_
          case y1_3 => intro W hW; (try subst hW); go_simp; try with_reducible rfl
          simp only [Act.put, List.setIfInBounds_toArray, List.set_cons_zero, List.set_cons_succ]
          refine rg_take (v := ?v1_4) rfl rfl hS ?y1_4 ?_
          case y1_4 => intro W hW; (try subst hW); go_simp; try with_reducible rfl
          simp only [Act.put, List.setIfInBounds_toArray, List.set_cons_zero, List.set_cons_succ]
          refine rg_take (v := ?v1_5) rfl rfl hS ?y1_5 ?_
          case y1_5 => intro W hW; have hcw : W.cell? (ad.add k) = some (.int .i64 z) := hW.cell hc0 hnS; go_simp; try with_reducible rfl
          simp only [Act.put, List.setIfInBounds_toArray, List.set_cons_zero, List.set_cons_succ]
          refine rg_take (v := ?v1_6) rfl rfl hS ?y1_6 ?_
          case y1_6 => intro W hW; (try subst hW); go_simp; try with_reducible rfl
          simp only [Act.put, List.setIfInBounds_toArray, List.set_cons_zero, List.set_cons_succ]
          refine rg_one rfl rfl ?_; intro K hK; go_simp
          refine (HLf.out _ hpd).mono ?_
          rintro e w8 ⟨rfl, rfl⟩
          refine hK _ _ (fun _ => hS) ?_; clear hK
          refine rg_take (v := ?v1_8) rfl rfl hS ?y1_8 ?_
          case y1_8 => intro W hW; (try subst hW); go_simp; try with_reducible rfl
          simp only [Act.put, List.setIfInBounds_toArray, List.set_cons_zero, List.set_cons_succ]
          refine rg_one rfl rfl ?_; intro K hK; go_simp
          refine (CP.out _).mono ?_
          rintro e w8 ⟨rfl, rfl⟩
          refine hK _ _ (fun _ => hS) ?_; clear hK
          refine rg_one rfl rfl ?_; intro K hK; go_simp
          refine (HT.out _ hpd).mono ?_
          rintro e w9 ⟨v9, rfl, ho9, hp9, hf9⟩
          obtain ⟨A9, c9, rfl, hc9, hm9, hd9⟩ := ho9.rd
          have hS9 : Fr S wq w9 := hS.trans (hf9.wide (eqS hSg))
          refine hK _ _ (fun _ => hS9) ?_; clear hK
          refine rg_one rfl rfl ?_; intro K hK
          have ho10 : OwnB w9 w7.heap.size 5 u16 got := OwnB.fr (S := (· = g)) (w := wq.drew) (ho.below (Below.refl wq.heap.size wq).drew (Nat.le_refl _)) hf9 (fun k hk e => by have := (ho.lt k hk).1; omega)
          refine wp_append_bytes bt (.tmp 74) (.tmp 84) rfl w7.heap.size u16 got rfl ho10 A9 tk.length c9 tk rfl rfl hd9 (by omega) (Nat.le_trans hsz7 hS9.size) ?_
          intro v10 w10 ho11 hg11 _
          have hS10 : Fr S wq w10 := hS9.grown hg11 (fun g' hg' => .inl (hSn _ (ho10.lt g' hg').1))
          have hp10 : RdP S w10 g (some dr) := hp9.fr (T := fun k => w7.heap.size ≤ k) ((Fr.refl _ w9).grown hg11 (fun k hk => .inl (ho10.lt k hk).1)) (by omega) hSn
          refine hK _ _ (fun _ => hS10) ?_; clear hK
          simp only [Act.put, List.setIfInBounds_toArray, List.set_cons_zero, List.set_cons_succ]
          refine rg_take (v := ?v1_12) rfl rfl hS10 ?y1_12 ?_
          case y1_12 => intro W hW; (try subst hW); go_simp; try with_reducible rfl
          simp only [Act.put, List.setIfInBounds_toArray, List.set_cons_zero, List.set_cons_succ]
          refine rg_done (by kernel_rfl) ?_
          go_wp2_with fail
          go_roundw
          case rel => exact ⟨k + 1, by omega, by go_num, ⟨got ++ tk, dr, ho11, hp10, HD⟩, hfr.trans hS10⟩
          case measure => simp only [intOf]; omega
        · have hdt : decide (k < ns ∧ 0 < m) = false := by simpa using hgo
          rw [hdt]
          have hTk := fun W hW => take_any (S := S) g (some rest) (m : Nat) W hW hSg (by omega) (by intro l' e; cases e; omega)
          rw [takeL_in rest m (by rw [HM.out]; exact Nat.le_refl _), takeS_in rest m (by rw [HM.out]; exact Nat.le_refl _), HM.out, List.take_length, List.drop_length, ← HM.out] at hTk
          have HT := Lib.hid hTk
          have hsz7 : w7.heap.size ≤ wq.heap.size := hfr.size
          clear hTk hdt hgo hs7 hAs
          go_upto_region 16 with (first
            | (go_at_call 45; refine (HLf.out wq hp).mono ?_; rintro e w8 ⟨rfl, rfl⟩)
            | (go_at_call 52; refine (HT.out wq hp).mono ?_; rintro e w9 ⟨v9, rfl, ho9, hp9, hf9⟩; obtain ⟨A9, c9, rfl, hc9, hm9, hd9⟩ := ho9.rd)
            | ((with_reducible refine at_dst 91 ?_)
               have ho10 : OwnB w9 w7.heap.size 5 u16 got := ho.fr hf9 (fun k hk e => by have := (ho.lt k hk).1; omega)
               refine wpList_append_bytes bt rfl (.tmp 86) (.tmp 90) rfl w7.heap.size u16 got rfl ho10 A9 rest.length c9 rest rfl rfl hd9 (by omega) (Nat.le_trans hsz7 hf9.size) ?_
               intro v10 w10 ho11 hg11 _))
          have hgl2 : got ++ rest = l := hgr.out
          rw [hgl2] at ho11
          have hS11 : Fr S wq w10 := (hf9.wide (eqS hSg)).grown hg11 (fun g' hg' => .inl (hSn _ (ho10.lt g' hg').1))
          have hp11 : RdP S w10 g (some []) := hp9.fr (T := fun k => w7.heap.size ≤ k) ((Fr.refl _ w9).grown hg11 (fun k hk => .inl (ho10.lt k hk).1)) (by omega) hSn
          have hB11 : Below w.heap.size w w10 := hB7.trans ((hfr.trans hS11).toBelow hSw hB7.size)
          have hr11 := hAr.out w10 (hfr.trans hS11)
          obtain ⟨A11, c11, rfl, hc11, hm11, hd11⟩ := ho11.rd
          clear hgl2 hgr hlen HLf HT ho ho9 ho10 ho11 hg11 hd9 hp hp9 hf9 hfr hS11 hAr hP7
          go_upto_region 18 with (first
            | (go_at_call 47; refine (done_any g (some []) w10 hp11).mono ?_; rintro e w11 ⟨rfl, rfl⟩)
            | (go_at_call 33; refine (same_bytes A11 l.length c11 l A n c l w10 hd11 rfl hr11 HL.out).mono ?_; rintro e w11 ⟨rfl, rfl⟩; rw [beq_self_eq_true]))
          clear hSg hSn hSw hgl hgw hp11 hr11 hd11 hsz7 HM
          obtain ⟨U, rfl⟩ := Int.eq_ofNat_of_zero_le hu.1
          obtain ⟨V, rfl⟩ := Int.eq_ofNat_of_zero_le hv.1
          have hU : U ≤ 65535 := by omega
          have hV : V ≤ 4294967295 := by omega
          obtain ⟨wU, iU⟩ := small64 U (Nat.le_trans hU (by decide))
          obtain ⟨wV, iV⟩ := small64 V hV
          have P16 := Lib.hid (fun W => put16_ok U hU W)
          have P32 := Lib.hid (fun W => put32_ok V hV W)
          have N2 := Lib.hid (numL_two U (be 4 V) hU)
          have N4 := Lib.hid (numL_four V hV)
          have L2 := Lib.hid (be_length 2 U)
          have L4 := Lib.hid (be_length 4 V)
          generalize be 2 U = b2 at *
          generalize be 4 V = b4 at *
          obtain ⟨bj, hbj⟩ : ∃ bj, bj = b2 ++ b4 := ⟨_, rfl⟩
          rw [← hbj] at N2
          have L6 : Hid (bj.length = 6) := by show _ = _; rw [hbj, List.length_append, L2.out, L4.out]
          have HBJ := Lib.hid hbj
          clear hbj
          go_upto_region 21 with (first
            | (go_at_call 36; refine (P16.out w10).mono ?_; rintro e w12 ⟨v12, rfl, ho12, hw12⟩; obtain ⟨A12, c12, rfl, hc12, hm12, hd12⟩ := ho12.rd)
            | (go_at_call 37; refine (P32.out w12).mono ?_; rintro e w13 ⟨v13, rfl, ho13, hw13⟩; obtain ⟨A13, c13, rfl, hc13, hm13, hd13⟩ := ho13.rd)
            | (go_at_call 35
               have hd : Below w13.heap.size w13 (w13.alloc (.cells #[.slice A12 b2.length c12, .slice A13 b4.length c13] 24)) := (Below.refl _ _).alloc (Nat.le_refl _) _
               refine (join_any (some ⟨w13.heap.size, 0, none⟩) 2 2 [.slice A12 b2.length c12, .slice A13 b4.length c13] [b2, b4] _ rfl (Rd.of_blk0 (es := []) (by simpa using Blk.new w13 24 [.slice A12 b2.length c12, .slice A13 b4.length c13]))
                 (AllRd.cons ⟨A12, c12, rfl, hc12, (hd12.below hw13).below hd⟩ (AllRd.cons ⟨A13, c13, rfl, hc13, hd13.below hd⟩ (AllRd.nil _))) (by simp) (by simp [L2.out, L4.out])).mono ?_
               rintro e w14 ⟨v14, rfl, ho14, hw14⟩
               have hw14' : Below w13.heap.size w13 w14 := hd.trans (hw14.mono hd.size)
               have hfl : [b2, b4].flatten = bj := by rw [HBJ.out]; simp
               rw [hfl] at ho14
               clear hfl
               obtain ⟨A14, c14, rfl, hc14, hm14, hd14⟩ := ho14.rd)
            | (go_at_call 41; refine (new_any A14 bj.length c14 bj w14 hd14 rfl (by rw [L6.out]; omega)).mono ?_; rintro e w15 ⟨g3, A15, c15, rfl, hm15⟩))
          have hB15 : Below w.heap.size w w15 := hB11.trans ((((hw12.trans (hw13.mono hw12.size)).trans (hw14'.mono (Nat.le_trans hw12.size hw13.size))).trans (hm15.bel.mono (Nat.le_trans (Nat.le_trans hw12.size hw13.size) hw14'.size))).mono hB11.size)
          have hg3w : w.heap.size ≤ g3 := Nat.le_trans (Nat.le_trans (Nat.le_trans (Nat.le_trans hB11.size hw12.size) hw13.size) hw14'.size) hm15.new
          have hP15 : RdP (· = g3) w15 g3 (some bj) := ⟨A15, bj.length, c15, hm15.blk, rfl, hm15.cap, hm15.max, hm15.rd, fun ad e hk => (hm15.far ad e).1 hk⟩
          have hS3 : (fun x => x = g3) g3 := rfl
          have G2 := Lib.hid (fun W hW => u16_any (S := (· = g3)) g3 (some bj) W hW hS3 (by intro l' e; cases e; rw [L6.out]; omega))
          have G4 := Lib.hid (fun W hW => u32_any (S := (· = g3)) g3 (some b4) W hW hS3 (by intro l' e; cases e; rw [L4.out]; omega))
          have G0 := Lib.hid (fun W hW => done_any (S := (· = g3)) g3 (some []) W hW)
          have G1 := Lib.hid (fun W hW => byte_any (S := (· = g3)) g3 (some []) W hW hS3 (by intro l' e; cases e; simp))
          have Gb := Lib.hid (fun W hW => bad_any (S := (· = g3)) g3 none W hW)
          obtain ⟨n2a, n2b⟩ := N2.out
          obtain ⟨n4a, n4b⟩ := N4.out
          obtain ⟨n1a, n1b⟩ := numL_one
          have e2' : ((2 : Nat) : Int) = 2 := rfl
          have e4' : ((4 : Nat) : Int) = 4 := rfl
          have e1' : ((1 : Nat) : Int) = 1 := rfl
          rw [e2'] at n2b
          rw [e4'] at n4b
          rw [e1'] at n1b
          rw [n2a, n2b] at G2
          rw [n4a, n4b] at G4
          rw [n1a, n1b] at G1
          clear e2' e4' e1' n2a n2b n4a n4b n1a n1b N2 N4 hm15 hw14 hw14' hd14 hd13 hd12 ho12 ho13 ho14 hw12 hw13 hd P16 P32 hB2 hB3 hB7 hB11
          go_wp2_with (first
            | (go_at_call 50; refine (G2.out w15 hP15).mono ?_; rintro e w16 ⟨rfl, hp16, hf16⟩)
            | (go_at_call 51; refine (G4.out w16 hp16).mono ?_; rintro e w17 ⟨rfl, hp17, hf17⟩)
            | (go_at_call 47; refine (G0.out w17 hp17).mono ?_; rintro e w18 ⟨rfl, rfl⟩)
            | (go_at_call 49; refine (G1.out w17 hp17).mono ?_; rintro e w19 ⟨rfl, hp19, hf19⟩)
            | (go_at_call 46; refine (Gb.out w19 hp19).mono ?_; rintro e w20 ⟨rfl, rfl⟩))
          go_ret
          exact ⟨rfl, hB15.trans (((hf16.trans hf17).trans hf19).toBelow (fun k hk => by rw [hk]; exact hg3w) hB15.size)⟩
end Go.Proofs.Ytehbahobkgoapaa
