/- The walk of ShaPieces: it says true for every text, every sizes, every further text. -/
import Derived.Test.YtehbahobkgoapaaWn
import Derived.Test.YtehbahobkgoapaaTx
import Derived.Test.YtehbahobkgoapaaKib
import Derived.Test.YtehbahobkgoapaaOi
namespace Go.Proofs.Ytehbahobkgoapaa
open Go Go.RowKit
set_option linter.unusedSimpArgs false
set_option linter.unusedVariables false

theorem sz3 : (Try.prog.info? 3).map (·.size) = some 1 := by kernel_rfl
theorem Lft.to {S : Nat → Prop} {w : World} {A : Option Addr} {n c : Nat} {l : List UInt8} (h : Lft S w A n c l) (p : Nat) (hp : p ≤ n) : Lft S w A p c (l.take p) := by
  refine ⟨by rw [List.length_take, h.len]; omega, by have := h.cap; omega, h.max, ?_, h.far⟩
  have h1 := h.rd.take p
  unfold bvs at h1 ⊢
  rwa [← List.map_take] at h1
theorem exec_eql_same {P : Program} {w : World} {a : Act} {o : Oper} {T T' n : Nat} (B : AB P T n) (x y : Operand) (ho : o.op = .binOp .eql T x y T') (xs : List UInt8) (ex : a.eval x = .agg (bvs xs).toArray) (ey : a.eval y = .agg (bvs xs).toArray) (hx : xs.length = n) :
    (execOp a.eval o).run P w = .ok (.value (.bool true)) w := by
  have h := exec_eql_arr (w := w) B x y ho xs xs ex ey hx hx
  rw [h]
  simp
theorem bthen {B : Nat} {a b c : World} (h : Below B a b) (k : Below b.heap.size b c) (hB : B ≤ b.heap.size) : Below B a c := h.trans (k.mono hB)
theorem join2 (A B : Option Addr) (n c m d : Nat) (l k : List UInt8) (w : World) (hl : l.length = n) (hk : k.length = m) (hc : n ≤ c) (hd : m ≤ d) (hr : Rd w A (bvs l)) (hr2 : Rd w B (bvs k)) (hb : n + m ≤ 140737488355328) :
    Calls Try.prog 35 #[.slice (some ⟨w.heap.size, 0, none⟩) 2 2] (w.alloc (.cells #[.slice A n c, .slice B m d] 24)) fun e w' => ∃ A2 c2, e = .returned (.slice A2 (n + m) c2) ∧ Rd w' A2 (bvs (l ++ k)) ∧ n + m ≤ c2 ∧ c2 ≤ maxLen ∧ Below (w.heap.size + 1) (w.alloc (.cells #[.slice A n c, .slice B m d] 24)) w' := by
  subst hl; subst hk
  have ha : AllRd (w.alloc (.cells #[.slice A l.length c, .slice B k.length d] 24)) [.slice A l.length c, .slice B k.length d] [l, k] := AllRd.cons ⟨A, c, rfl, hc, hr.alloc _⟩ (AllRd.cons ⟨B, d, rfl, hd, hr2.alloc _⟩ (AllRd.nil _))
  have hrd : Rd (w.alloc (.cells #[.slice A l.length c, .slice B k.length d] 24)) (some ⟨w.heap.size, 0, none⟩) [.slice A l.length c, .slice B k.length d] := Rd.of_blk0 (es := []) (by simpa using Blk.new w 24 [.slice A l.length c, .slice B k.length d])
  refine (join_any (some ⟨w.heap.size, 0, none⟩) 2 2 _ [l, k] _ rfl hrd ha (by simp) (by simp; omega)).mono ?_
  rintro e w' ⟨v, rfl, ho, hw⟩
  have e1 : [l, k].flatten = l ++ k := by simp
  rw [e1] at ho
  obtain ⟨A2, c2, rfl, h1, h2, h3⟩ := ho.rd
  rw [List.length_append] at *
  exact ⟨A2, c2, rfl, h3, h1, h2, by simpa using hw⟩
/-- While pieces are written: d is written, r is left. -/
def PcS (g : Nat) (l : List UInt8) (w : World) (v : Value) (wr : World) : Prop :=
  ∃ (d r : List UInt8) (A' : Option Addr) (n' c' : Nat), Hid (d ++ r = l) ∧ v = .slice A' n' c' ∧ r.length = n' ∧ (0 < n' → Lft (· = g) wr A' n' c' r) ∧ St wr g d ∧ Below w.heap.size w wr

set_option maxRecDepth 100000 in
set_option maxHeartbeats 4000000 in
theorem sha_pieces (A : Option Addr) (n c : Nat) (l : List UInt8) (As : Option Addr) (ns cs : Nat) (zs : List Int) (B : Option Addr) (m e' : Nat) (k : List UInt8) (w : World) (hr : Rd w A (bvs l)) (hl : l.length = n) (hcap : n ≤ c) (hmax : c ≤ 1048576)
    (hs : Rd w As (intC zs)) (hzl : zs.length = ns) (hns : ns ≤ 9223372036854775807) (hrng : ∀ z ∈ zs, -9223372036854775808 ≤ z ∧ z ≤ 9223372036854775807)
    (hrB : Rd w B (bvs k)) (hk : k.length = m) (hcapB : m ≤ e') (hmaxB : e' ≤ 1048576) :
    Calls Try.prog 16 #[.slice A n c, .slice As ns cs, .slice B m e'] w fun e w' => e = .returned (.bool true) ∧ Below w.heap.size w w' := by
  have HL := Lib.hid hl
  have HZL := Lib.hid hzl
  have HK := Lib.hid hk
  have HR := Lib.hid hrng
  have hml : (1048576 : Nat) ≤ maxLen := by unfold maxLen; omega
  have C1 := fun u => Lib.hid (new_state u)
  clear hl hzl hk hrng
  go_enter Try.func16, Try.ntmps16
  go_upto_region 4 with (first
    | (go_at_call 83; with_reducible refine (C1 _).out.mono ?_; rintro e w1 ⟨g, rfl, hg, hs1, hw1⟩))
  go_wp2_with fail
  go_loopw [8, 9] (fun v i wr => ∃ t : Nat, t ≤ ns ∧ i = .int .i64 (t : Int) ∧ PcS g l w v wr) (fun _ i _ => ns - (intOf i).toNat)
  case atStart => exact ⟨0, by omega, by go_num, ⟨[], l, A, n, c, rfl, rfl, HL.out, fun h0 => rd_lft hr HL.out hcap (by omega) h0 hw1 hg, hs1, hw1⟩⟩
  case round =>
    clear hs1 hw1
    obtain ⟨t, ht, rfl, d, r, A', n', c', hdr, rfl, hrl, hlf, hst, hw⟩ := hrel
    by_cases hgo : t < ns ∧ 0 < n'
    · obtain ⟨htl, h0⟩ := hgo
      have htz : (t : Int) < (ns : Int) := by omega
      have h0z : (0 : Int) < (n' : Int) := by omega
      have hlf := hlf h0
      obtain ⟨z, hz⟩ : ∃ z, zs[t]? = some z := ⟨zs[t]'(by rw [HZL.out]; exact htl), List.getElem?_eq_getElem _⟩
      have hzr := HR.out z (List.mem_of_getElem? hz)
      obtain ⟨ad, had, hcell⟩ : ∃ ad, As = some ad ∧ wr.cell? (ad.add t) = some (.int .i64 z) := by
        obtain ⟨ad, h1, h2⟩ := (hs.below hw).at_ (k := t) (by simp [intC, HZL.out]; exact htl)
        refine ⟨ad, h1, ?_⟩
        rw [h2]
        have h3 : (intC zs)[t]? = some (.int .i64 z) := by simp [intC, hz]
        rw [List.getElem?_eq_getElem (by simp [intC, HZL.out]; exact htl)] at h3
        exact h3
      subst had
      have hn'm : n' ≤ maxLen := Nat.le_trans hlf.cap hlf.max
      have hlen1 : d.length + n' ≤ 1048576 := by
        have h1 := congrArg List.length hdr.out
        rw [List.length_append, HL.out, hrl] at h1
        omega
      have P := Lib.hid (pick_any z ((n' : Int) + 1) wr (by omega) (by unfold maxLen at hn'm; omega) hzr)
      obtain ⟨p, hp⟩ := Int.eq_ofNat_of_zero_le (pickOf_bd z ((n' : Int) + 1) (by omega)).1
      have hpn : p ≤ n' := by have h1 := (pickOf_bd z ((n' : Int) + 1) (by omega)).2; rw [hp] at h1; omega
      rw [hp] at P
      have hcz := Lib.hid hcell
      have hW := write_state g d A' p c' (r.take p) wr hst (hlf.to p hpn).len (fun _ => hlf.to p hpn) (by omega)
      have HWr := Lib.hid hW
      clear hp hz hcell hW
      go_upto_region 8 with fail
      refine wp_region_lit ?_
      refine wpList_yield rfl _ (exec_move _ rfl) ?_
      simp only [Act.put, List.setIfInBounds_toArray, List.set_cons_zero, List.set_cons_succ]
      refine wpList_yield rfl _ (exec_move _ rfl) ?_
      simp only [Act.put, List.setIfInBounds_toArray, List.set_cons_zero, List.set_cons_succ]
      refine wpList_yield rfl _ (exec_sia Try.underlying92 sz3 _ _ rfl ad ns cs t _ rfl rfl htl) ?_
      simp only [Act.put, List.setIfInBounds_toArray, List.set_cons_zero, List.set_cons_succ]
      refine wpList_yield rfl _ (exec_load3 _ rfl _ _ rfl hcz.out) ?_
      simp only [Act.put, List.setIfInBounds_toArray, List.set_cons_zero, List.set_cons_succ]
      refine wpList_yield rfl _ (exec_move _ rfl) ?_
      simp only [Act.put, List.setIfInBounds_toArray, List.set_cons_zero, List.set_cons_succ]
      refine wpList_yield rfl _ (exec_len24 _ rfl A' n' c' rfl) ?_
      simp only [Act.put, List.setIfInBounds_toArray, List.set_cons_zero, List.set_cons_succ]
      refine wpList_yield rfl _ (exec_iadd _ _ rfl _ _ (((n' + 1 : Nat) : Int)) rfl rfl (by omega) (by omega)) ?_
      simp only [Act.put, List.setIfInBounds_toArray, List.set_cons_zero, List.set_cons_succ]
      refine wpList_plain rfl fun K hK => ?_; go_simp
      with_reducible refine P.out.mono ?_
      rintro e _ ⟨rfl, rfl⟩
      refine hK _ _ ?_; clear hK
      (try simp only [Act.put, List.setIfInBounds_toArray, List.set_cons_zero, List.set_cons_succ])
      refine wpList_yield rfl _ (exec_assign _ rfl) ?_
      simp only [Act.put, List.setIfInBounds_toArray, List.set_cons_zero, List.set_cons_succ]
      refine wpList_nil ?_
      go_upto_region 11 with (first
        | ((with_reducible refine at_dst 38 ?_); refine wpList_yield rfl _ (exec_slice_to st24 _ _ rfl A' n' c' p .i64 rfl rfl (by have := hlf.cap; omega)) ?_)
        | (go_at_call 84; with_reducible refine HWr.out.mono ?_; rintro e w2 ⟨rfl, hs2, hf2⟩))
      have hb2 : Below w.heap.size w w2 := hw.trans (fr_below hf2 (fun k e => by rw [e]; exact hg) hw.size)
      have hl2 := (hlf.cut p hpn).fr hf2 (fun k e => e)
      refine wp_region_lit ?_
      refine wpList_yield rfl _ (exec_move _ rfl) ?_
      simp only [Act.put, List.setIfInBounds_toArray, List.set_cons_zero, List.set_cons_succ]
      refine wpList_yield rfl _ (exec_move _ rfl) ?_
      simp only [Act.put, List.setIfInBounds_toArray, List.set_cons_zero, List.set_cons_succ]
      refine wpList_yield rfl _ (exec_slice_from st24 _ _ rfl A' n' c' p .i64 rfl rfl hpn) ?_
      simp only [Act.put, List.setIfInBounds_toArray, List.set_cons_zero, List.set_cons_succ]
      refine wpList_yield rfl _ (exec_assign _ rfl) ?_
      simp only [Act.put, List.setIfInBounds_toArray, List.set_cons_zero, List.set_cons_succ]
      refine wpList_nil ?_
      go_wp2_with fail
      go_roundw
      case rel =>
        exact ⟨t + 1, by omega, by go_num, ⟨d ++ r.take p, r.drop p, _, _, _, Lib.hid (by rw [List.append_assoc, List.take_append_drop]; exact hdr.out), rfl, hl2.len, fun _ => hl2, hs2, hb2⟩⟩
      case measure => simp only [intOf]; omega
    · have hlen1 : d.length + n' = n := by
        have h1 := congrArg List.length hdr.out
        rw [List.length_append, HL.out, hrl] at h1
        exact h1
      have HW1 := Lib.hid (write_state g d A' n' c' r wr hst hrl hlf (by omega))
      rw [hdr.out] at HW1
      have hN := Lib.hid HL.out
      have HRL : Hid ((shaL l).length = 32) := Lib.hid (shaL_length l)
      have HRK : Hid ((shaL (l ++ k)).length = 32) := Lib.hid (shaL_length _)
      have S1 := fun (q : Nat) (u : World) (h : St u q l) => Lib.hid (sum_state q l u h (by rw [HL.out]; omega))
      have S2 := fun (q : Nat) (u : World) (h : St u q (l ++ k)) => Lib.hid (sum_state q (l ++ k) u h (by rw [List.length_append, HL.out, HK.out]; omega))
      have S3 := fun (u : World) (h : Below w.heap.size w u) => Lib.hid (sum_any A n c l u (hr.below h) HL.out hcap (by omega) (by omega))
      have S4 := fun (q : Nat) (u : World) (h : St u q l) => Lib.hid (len_state q l u h)
      have S5 := fun (q : Nat) (u : World) (h : St u q (l ++ k)) => Lib.hid (len_state q (l ++ k) u h)
      have S6 := fun (q : Nat) (u : World) (h : St u q l) => Lib.hid (clone_state q l u h)
      have S7 := fun (q : Nat) (u : World) (h : St u q l) (hb : Below w.heap.size w u) (hq : w.heap.size ≤ q) => Lib.hid (write_state q l B m e' k u h HK.out (fun h0 => rd_lft hrB HK.out hcapB (by omega) h0 hb hq) (by rw [HL.out]; omega))
      have S8 := fun (A2 : Option Addr) (c2 : Nat) (u : World) (h : Rd u A2 (bvs (l ++ k))) (h1 : n + m ≤ c2) (h2 : c2 ≤ maxLen) => Lib.hid (sum_any A2 (n + m) c2 (l ++ k) u h (by rw [List.length_append, HL.out, HK.out]) h1 h2 (by omega))
      rw [HL.out] at S4
      rw [List.length_append, HL.out, HK.out] at S5
      clear hlf hrl hdr
      have hst0 := hst
      clear hst
      generalize shaL (l ++ k) = resk at *
      generalize shaL l = res at *
      unfold arr8 at *
      have hcs : (¬ t < ns) ∨ (t < ns ∧ n' = 0) := by omega
      clear hgo
      rcases hcs with h1 | ⟨h1, h2⟩
      · have h1z : ¬ ((t : Int) < (ns : Int)) := by omega
        go_upto_region 13 with (first
          | (go_at_call 84; with_reducible refine HW1.out.mono ?_; rintro e w2 ⟨rfl, hs2, hf2⟩))
        have hb2 : Below w.heap.size w w2 := hw.trans (fr_below hf2 (fun k e => by rw [e]; exact hg) hw.size)
        have hg2 := hs2.lt
        go_upto_region 16 with (first
          | (go_at_call 87
             with_reducible refine (S6 g w2 hs2).out.mono ?_
             rintro e w3 ⟨g', rfl, hg', hs3, hw3⟩
             have hb3 := bthen hb2 hw3 hb2.size
             have hs2b := hs2.below hw3)
          | (go_at_call 85
             with_reducible refine (S1 g w3 hs2b).out.mono ?_
             rintro e w4 ⟨rfl, hw4⟩
             have hb4 := bthen hb3 hw4 hb3.size)
          | (go_at_call 79
             with_reducible refine (S3 w4 hb4).out.mono ?_
             rintro e w5 ⟨rfl, hw5⟩
             have hb5 := bthen hb4 hw5 hb4.size
             have hs5 := (hs2b.below hw4).below hw5
             have hs5b := (hs3.below hw4).below hw5)
          | ((with_reducible refine at_dst 57 ?_); refine wpList_yield_w (by simp [Region.wanted, yielded, Act.put]) _ (exec_neq_same ab25 _ _ rfl res rfl rfl HRL.out) ?_)
          | (go_at_call 86; with_reducible refine (S4 g w5 hs5).out.mono ?_; rintro e _ ⟨rfl, rfl⟩))
        have hgw : w.heap.size ≤ g' := Nat.le_trans hb2.size hg'
        have hgg : g ≠ g' := by omega
        go_upto_region 17 with (first
          | (go_at_call 84; with_reducible refine (S7 g' w5 hs5b hb5 hgw).out.mono ?_; rintro e w6 ⟨rfl, hs6, hf6⟩))
        have hs6b := hs5.fr hf6 hgg
        have hb6 : Below w.heap.size w w6 := hb5.trans (fr_below hf6 (fun k e => by rw [e]; exact hgw) hb5.size)
        clear hw3 hw4 hw5 hf2 hf6 hs2 hs3 hs5 hs5b hs2b hb3 hb4 hb5
        go_wp2_with (first
          | (go_at_call 85
             with_reducible refine (S1 g w6 hs6b).out.mono ?_
             rintro e w7 ⟨rfl, hw7⟩
             have hb7 := bthen hb6 hw7 hb6.size
             have hs7 := hs6.below hw7)
          | (go_at_call 79
             with_reducible refine (S3 w7 hb7).out.mono ?_
             rintro e w8 ⟨rfl, hw8⟩
             have hb8 := bthen hb7 hw8 hb7.size
             have hs8 := hs7.below hw8)
          | ((with_reducible refine at_dst 73 ?_); refine wpList_yield rfl _ (exec_eql_same ab25 _ _ rfl res rfl rfl HRL.out) ?_)
          | (go_at_call 85
             with_reducible refine (S2 g' w8 hs8).out.mono ?_
             rintro e w9 ⟨rfl, hw9⟩
             have hb9 := bthen hb8 hw9 hb8.size
             have hs9 := hs8.below hw9)
          | (go_at_call 35
             with_reducible refine (join2 A B n c m e' l k w9 HL.out HK.out hcap hcapB (hr.below hb9) (hrB.below hb9) (by omega)).mono ?_
             rintro e w10 ⟨A2, c2, rfl, hr10, hc10, hm10, hw10⟩
             have hb10 := hb9.trans (((Below.refl w9.heap.size w9).alloc (Nat.le_refl _) _).trans (hw10.mono (Nat.le_succ _)) |>.mono hb9.size)
             have hs10 := hs9.below (((Below.refl w9.heap.size w9).alloc (Nat.le_refl _) _).trans (hw10.mono (Nat.le_succ _))))
          | (go_at_call 79
             with_reducible refine (S8 A2 c2 w10 hr10 hc10 hm10).out.mono ?_
             rintro e w11 ⟨rfl, hw11⟩
             have hb11 := bthen hb10 hw11 hb10.size
             have hs11 := hs10.below hw11)
          | ((with_reducible refine at_dst 82 ?_); refine wpList_yield_w (by simp [Region.wanted, yielded, Act.put]) _ (exec_eql_same ab25 _ _ rfl resk rfl rfl HRK.out) ?_)
          | (go_at_call 86; with_reducible refine (S5 g' w11 hs11).out.mono ?_; rintro e _ ⟨rfl, rfl⟩))
        go_ret
        exact ⟨rfl, hb11⟩
      · have h1z : (t : Int) < (ns : Int) := by omega
        subst h2
        go_upto_region 13 with (first
          | (go_at_call 84; with_reducible refine HW1.out.mono ?_; rintro e w2 ⟨rfl, hs2, hf2⟩))
        have hb2 : Below w.heap.size w w2 := hw.trans (fr_below hf2 (fun k e => by rw [e]; exact hg) hw.size)
        have hg2 := hs2.lt
        go_upto_region 16 with (first
          | (go_at_call 87
             with_reducible refine (S6 g w2 hs2).out.mono ?_
             rintro e w3 ⟨g', rfl, hg', hs3, hw3⟩
             have hb3 := bthen hb2 hw3 hb2.size
             have hs2b := hs2.below hw3)
          | (go_at_call 85
             with_reducible refine (S1 g w3 hs2b).out.mono ?_
             rintro e w4 ⟨rfl, hw4⟩
             have hb4 := bthen hb3 hw4 hb3.size)
          | (go_at_call 79
             with_reducible refine (S3 w4 hb4).out.mono ?_
             rintro e w5 ⟨rfl, hw5⟩
             have hb5 := bthen hb4 hw5 hb4.size
             have hs5 := (hs2b.below hw4).below hw5
             have hs5b := (hs3.below hw4).below hw5)
          | ((with_reducible refine at_dst 57 ?_); refine wpList_yield_w (by simp [Region.wanted, yielded, Act.put]) _ (exec_neq_same ab25 _ _ rfl res rfl rfl HRL.out) ?_)
          | (go_at_call 86; with_reducible refine (S4 g w5 hs5).out.mono ?_; rintro e _ ⟨rfl, rfl⟩))
        have hgw : w.heap.size ≤ g' := Nat.le_trans hb2.size hg'
        have hgg : g ≠ g' := by omega
        go_upto_region 17 with (first
          | (go_at_call 84; with_reducible refine (S7 g' w5 hs5b hb5 hgw).out.mono ?_; rintro e w6 ⟨rfl, hs6, hf6⟩))
        have hs6b := hs5.fr hf6 hgg
        have hb6 : Below w.heap.size w w6 := hb5.trans (fr_below hf6 (fun k e => by rw [e]; exact hgw) hb5.size)
        clear hw3 hw4 hw5 hf2 hf6 hs2 hs3 hs5 hs5b hs2b hb3 hb4 hb5
        go_wp2_with (first
          | (go_at_call 85
             with_reducible refine (S1 g w6 hs6b).out.mono ?_
             rintro e w7 ⟨rfl, hw7⟩
             have hb7 := bthen hb6 hw7 hb6.size
             have hs7 := hs6.below hw7)
          | (go_at_call 79
             with_reducible refine (S3 w7 hb7).out.mono ?_
             rintro e w8 ⟨rfl, hw8⟩
             have hb8 := bthen hb7 hw8 hb7.size
             have hs8 := hs7.below hw8)
          | ((with_reducible refine at_dst 73 ?_); refine wpList_yield rfl _ (exec_eql_same ab25 _ _ rfl res rfl rfl HRL.out) ?_)
          | (go_at_call 85
             with_reducible refine (S2 g' w8 hs8).out.mono ?_
             rintro e w9 ⟨rfl, hw9⟩
             have hb9 := bthen hb8 hw9 hb8.size
             have hs9 := hs8.below hw9)
          | (go_at_call 35
             with_reducible refine (join2 A B n c m e' l k w9 HL.out HK.out hcap hcapB (hr.below hb9) (hrB.below hb9) (by omega)).mono ?_
             rintro e w10 ⟨A2, c2, rfl, hr10, hc10, hm10, hw10⟩
             have hb10 := hb9.trans (((Below.refl w9.heap.size w9).alloc (Nat.le_refl _) _).trans (hw10.mono (Nat.le_succ _)) |>.mono hb9.size)
             have hs10 := hs9.below (((Below.refl w9.heap.size w9).alloc (Nat.le_refl _) _).trans (hw10.mono (Nat.le_succ _))))
          | (go_at_call 79
             with_reducible refine (S8 A2 c2 w10 hr10 hc10 hm10).out.mono ?_
             rintro e w11 ⟨rfl, hw11⟩
             have hb11 := bthen hb10 hw11 hb10.size
             have hs11 := hs10.below hw11)
          | ((with_reducible refine at_dst 82 ?_); refine wpList_yield_w (by simp [Region.wanted, yielded, Act.put]) _ (exec_eql_same ab25 _ _ rfl resk rfl rfl HRK.out) ?_)
          | (go_at_call 86; with_reducible refine (S5 g' w11 hs11).out.mono ?_; rintro e _ ⟨rfl, rfl⟩))
        go_ret
        exact ⟨rfl, hb11⟩
end Go.Proofs.Ytehbahobkgoapaa
