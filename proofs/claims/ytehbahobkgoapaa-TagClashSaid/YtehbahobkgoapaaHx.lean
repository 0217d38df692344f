/- Contracts of octet.Hex, octet.Unhex and of the reference's. -/
import Derived.Test.YtehbahobkgoapaaLs
import Derived.Test.YtehbahobkgoapaaOc
import Derived.Test.YtehbahobkgoapaaMi
namespace Go.Proofs.Ytehbahobkgoapaa
open Go Go.RowKit
set_option linter.unusedSimpArgs false
set_option linter.unusedVariables false

def digL : List UInt8 := [48, 49, 50, 51, 52, 53, 54, 55, 56, 57, 97, 98, 99, 100, 101, 102]
def dig (k : Nat) : UInt8 := digL.getD k 0
def hexs (l : List UInt8) : List UInt8 := l.flatMap fun x => [dig (x.toNat / 16), dig (x.toNat % 16)]
def hexL (l : List UInt8) : List UInt8 := if l.length = 0 then [45] else hexs l
theorem hexs_length (l : List UInt8) : (hexs l).length = 2 * l.length := by
  induction l with
  | nil => rfl
  | cons x l ih =>
    unfold hexs at ih ⊢
    rw [List.flatMap_cons, List.length_append, ih]
    simp; omega
theorem hexs_succ (l : List UInt8) (k : Nat) (h : k < l.length) : hexs (l.take (k + 1)) = hexs (l.take k) ++ [dig ((l[k]).toNat / 16), dig ((l[k]).toNat % 16)] := by
  rw [List.take_succ_eq_append_getElem h]
  unfold hexs
  rw [List.flatMap_append]
  simp

section
variable {P : Program} {w : World} {ops : Array Oper} {o : Oper} {a : Act} {Q : Exit → Act → World → Prop}
/-- s[i] of a text. -/
theorem exec_index_str {T : TypeId} (hT : P.underlying T = some .string) (x i : Operand) (ho : o.op = .index T x i) (t : List UInt8) (hx : a.eval x = .string ⟨t.toArray⟩) (k : IntKind) (j : Nat) (hi : a.eval i = .int k (j : Int)) (h : j < t.length) :
    (execOp a.eval o).run P w = .ok (.value (.int .u8 ((t[j]).toNat : Int))) w := by
  have hs : (0 : Int) ≤ (j : Int) ∧ (j : Int) < ((⟨t.toArray⟩ : ByteArray).size : Int) := ⟨by omega, by
    show (j : Int) < ((t.toArray.size : Nat) : Int)
    simp; exact h⟩
  have hr := run_index_string (P := P) w T ⟨t.toArray⟩ k (j : Int) hT
  rw [dif_pos hs] at hr
  unfold execOp
  simp only [ho, hx, hi, Sem.run_bind, hr, Result.andThen_ok, Sem.run_pure]
  rfl

/-- append(s, x...) where there is room. -/
theorem run_append_fits {T E S : TypeId} (B : BT P T E S) (ty g : Nat) (l sp : List UInt8) (hb : Blk w g E (bvs (l ++ sp))) (A : Option Addr) (m c : Nat) (y : List UInt8) (hy : y.length = m) (hr : Rd w A (bvs y)) (h0 : 0 < m) (hm : m ≤ sp.length) (hmax : l.length + sp.length ≤ maxLen) :
    ∃ w', (Builtin.append_ #[T, T] ty #[.slice (some ⟨g, 0, none⟩) l.length (l.length + sp.length), .slice A m c]).run P w = .ok (.slice (some ⟨g, 0, none⟩) (l.length + m) (l.length + sp.length)) w' ∧
      Blk w' g E (bvs (l ++ y ++ sp.drop m)) ∧ w.grownBy w' (some g) ∧ w'.heap.size = w.heap.size := by
  obtain ⟨i, hi, hz, hsz, hbb⟩ := info_parts B.i
  subst hy
  obtain ⟨ad, rfl, hc⟩ := hr (by rw [bvs_length]; exact h0)
  have hml : (maxLen : Nat) = 9223372036854775807 := rfl
  have hrun := run_append_room (P := P) w T ty E i B.t hi g l.length (l.length + sp.length) (bvs (l ++ sp)).toArray hb ad y.length c (bvs y) (by simp [bvs, hsz]) hc (bvs_one _) (by omega) (by simp [bvs, hsz]; omega)
  have e : ((bvs (l ++ sp)).toArray.toList.take (l.length * i.size) ++ bvs y ++ (bvs (l ++ sp)).toArray.toList.drop (l.length * i.size + (bvs y).length)) = bvs (l ++ y ++ sp.drop y.length) := by
    simp only [bvs, hsz, List.map_append, Nat.mul_one, List.length_map]
    congr 1
    · congr 1
      exact List.take_left' (by simp)
    · rw [List.drop_append, List.map_drop]; simp
  have h1 := hb.row (bvs (l ++ y ++ sp.drop y.length))
  rw [e] at hrun
  exact ⟨_, hrun, h1, grownBy_setRow w g _, by simp⟩
theorem wp_append_fits {T E S : TypeId} (B : BT P T E S) {K : Act → World → Prop} (s x : Operand) (ho : o.op = .call { callee := .builtin .append, args := #[s, x], argTypes := #[T, T] }) (g : Nat) (l sp : List UInt8) (n cap : Nat) (hn : l.length = n) (hcap : l.length + sp.length = cap)
    (hs : a.eval s = .slice (some ⟨g, 0, none⟩) n cap) (hb : Blk w g E (bvs (l ++ sp))) (A : Option Addr) (m c : Nat) (y : List UInt8) (hx : a.eval x = .slice A m c) (hy : y.length = m) (hr : Rd w A (bvs y)) (h0 : 0 < m) (hm : m ≤ sp.length) (hmax : cap ≤ maxLen)
    (h : ∀ w', Blk w' g E (bvs (l ++ y ++ sp.drop m)) → w.grownBy w' (some g) → w'.heap.size = w.heap.size → K (a.put o.dst (.slice (some ⟨g, 0, none⟩) (n + m) cap)) w') : o.wp P a w K Q := by
  subst hn; subst hcap
  obtain ⟨w', hrun, h1, h2, h3⟩ := run_append_fits B o.type g l sp hb A m c y hy hr h0 hm hmax
  unfold Oper.wp execOp
  simp only [ho, resolve, invoke, builtin, Sem.run_bind, Sem.run_pure, Result.andThen_ok, List.map_toArray, List.map_cons, List.map_nil, hs, hx, hrun]
  exact h w' h1 h2 h3
theorem wp_append_bytes {T E S : TypeId} (B : BT P T E S) {K : Act → World → Prop} (s x : Operand) (ho : o.op = .call { callee := .builtin .append, args := #[s, x], argTypes := #[T, T] })
    (base : Nat) (v : Value) (l : List UInt8) (hs : a.eval s = v) (hown : OwnB w base E v l) (A : Option Addr) (m c : Nat) (y : List UInt8) (hx : a.eval x = .slice A m c) (hy : y.length = m) (hr : Rd w A (bvs y))
    (hbytes : l.length + m ≤ 140737488355328) (hbase : base ≤ w.heap.size)
    (h : ∀ v' w', OwnB w' base E v' (l ++ y) → w.grownBy w' v.ownBlock → (v'.ownBlock = v.ownBlock ∨ v'.ownBlock = some w.heap.size) → K (a.put o.dst v') w') : o.wp P a w K Q := by
  obtain ⟨v', w', hrun, h1, h2, h3⟩ := run_append_bytes B o.type base v l hown A m c y hy hr hbytes hbase
  unfold Oper.wp execOp
  simp only [ho, resolve, invoke, builtin, Sem.run_bind, Sem.run_pure, Result.andThen_ok, List.map_toArray, List.map_cons, List.map_nil, hs, hx, hrun]
  exact h v' w' h1 h2 h3
end

theorem and15 (x : Nat) (hx : x < 256) : bits .and .u8 (x : Int) 15 = ((x % 16 : Nat) : Int) := by
  have := u8_and_nat x 15 hx (by omega)
  rw [nat_mask4] at this
  exact this
theorem dig_at (k : Nat) (h : k < 16) : digL[k]'(by simp [digL]; omega) = dig k := by
  unfold dig
  rw [List.getD_eq_getElem?_getD, List.getElem?_eq_getElem (by simp [digL]; omega)]
  rfl

set_option maxRecDepth 100000 in
set_option maxHeartbeats 1000000 in
theorem hex_any (A : Option Addr) (n c : Nat) (l : List UInt8) (w : World) (hr : Rd w A (bvs l)) (hl : l.length = n) (hn : n ≤ 140737488351232) :
    Calls Try.prog 60 #[.slice A n c] w fun e w' => e = .returned (.string ⟨(hexL l).toArray⟩) ∧ Below w.heap.size w w' := by
  have HL := Lib.hid hl
  by_cases h0 : n = 0
  · subst h0
    have e : hexL l = [45] := by unfold hexL; rw [if_pos hl]
    rw [e]
    clear e hl
    go_enter Try.func60, Try.ntmps60
    go_wp2
    go_ret
    exact ⟨rfl, Below.refl _ _⟩
  · have e : hexL l = hexs l := by unfold hexL; rw [if_neg (by omega)]
    rw [e]
    clear e hl
    go_enter Try.func60, Try.ntmps60
    go_wp2_with ((with_reducible refine at_dst 12 ?_); refine wpList_make_bytes bt rfl _ _ rfl .i64 .i64 0 (2 * n) rfl (by go_num) (Nat.zero_le _) (by omega) ?_; intro w1 hb1 hw1 hs1)
    have hb0 : Blk w1 w.heap.size 5 (bvs (hexs (l.take 0) ++ List.replicate (2 * n - 2 * 0) 0)) := by simpa [hexs] using hb1
    clear hb1
    go_loopw [3, 15] (fun out i wr => ∃ k : Nat, k ≤ n ∧ i = .int .i64 (k : Int) ∧ out = .slice (some ⟨w.heap.size, 0, none⟩) (2 * k) (2 * n) ∧ Blk wr w.heap.size 5 (bvs (hexs (l.take k) ++ List.replicate (2 * n - 2 * k) 0)) ∧ Below w.heap.size w wr ∧ w.heap.size < wr.heap.size) (fun _ i _ => n - (intOf i).toNat)
    case atStart => exact ⟨0, by omega, by go_num, by first | rfl | simp, hb0, hw1, by omega⟩
    case round =>
      obtain ⟨k, hk, rfl, rfl, hb, hw, hz⟩ := hrel
      obtain ⟨wq, rfl⟩ : ∃ wq : World, wq = wr := ⟨_, rfl⟩
      by_cases hlt : k < n
      · have hkl : k < l.length := by rw [HL.out]; exact hlt
        obtain ⟨ad, rfl, hcc⟩ := hr (by rw [bvs_length, HL.out]; omega)
        have hc : wq.cell? (ad.add k) = some (.int .u8 ((l[k]).toNat : Int)) := by
          have h1 := hcc k _ (by rw [bvs_get, List.getElem?_eq_getElem hkl]; rfl)
          exact (hw.cell (World.block_lt_of_cell? w _ h1)).trans h1
        have hs := Lib.hid (hexs_succ l k hkl)
        have hx8 : (l[k]).toNat < 256 := UInt8.toNat_lt _
        generalize (l[k]).toNat = x at *
        have hand := and15 x hx8
        have hhl : Hid ((hexs (l.take k)).length = 2 * k) := by show _ = _; rw [hexs_length]; simp; omega
        generalize hexs (l.take k) = hk0 at *
        obtain ⟨q, hq⟩ : ∃ q, q = x / 16 := ⟨_, rfl⟩
        obtain ⟨r, hrr⟩ : ∃ r, r = x % 16 := ⟨_, rfl⟩
        have hq16 : q < 16 := by omega
        have hr16 : r < 16 := by omega
        have hdq : (x : Int) / 16 = (q : Int) := by omega
        rw [← hrr] at hand hs
        rw [← hq] at hs
        clear hq hrr
        have hdl : digL.length = 16 := rfl
        go_wp2_with fail
        refine rg_begin (Below w.heap.size w) [] [7, 8] [0, 1, 2, 3, 4, 5, 6, 7, 8, 9] 0 mixed (by kernel_rfl) (fun _ _ _ _ e hh => ⟨e.symm.trans hh.1, hh.2⟩) ?_
        simp only [pick, List.map_cons, List.map_nil, List.getD_cons_zero, List.getD_cons_succ]
        have hS : (Below w.heap.size w) _ := hw.drew
        refine rg_take (v := ?v1_0) rfl rfl hS ?y1_0 ?_
        case y1_0 => intro W hW; (try subst hW); go_simp; try with_reducible rfl
        simp only [Act.put, List.setIfInBounds_toArray, List.set_cons_zero, List.set_cons_succ]
        refine rg_take (v := ?v1_1) rfl rfl hS ?y1_1 ?_
        case y1_1 => intro W hW; (try subst hW); go_simp; try with_reducible rfl
        simp only [Act.put, List.setIfInBounds_toArray, List.set_cons_zero, List.set_cons_succ]
        refine rg_take (v := ?v1_2) rfl rfl hS ?y1_2 ?_
        case y1_2 => intro W hW; (try subst hW); go_simp; try with_reducible rfl
        simp only [Act.put, List.setIfInBounds_toArray, List.set_cons_zero, List.set_cons_succ]
        refine rg_take rfl rfl hS (fun W hW => exec_index_str Try.underlying9 (.const (.string ⟨digL.toArray⟩)) (.tmp 21) rfl digL rfl .u8 q rfl (by rw [hdl]; exact hq16)) ?_
        simp only [Act.put, List.setIfInBounds_toArray, List.set_cons_zero, List.set_cons_succ]
        refine rg_take (v := ?v1_4) rfl rfl hS ?y1_4 ?_
        case y1_4 => intro W hW; (try subst hW); go_simp; try with_reducible rfl
        simp only [Act.put, List.setIfInBounds_toArray, List.set_cons_zero, List.set_cons_succ]
        refine rg_take (v := ?v1_5) rfl rfl hS ?y1_5 ?_
        case y1_5 => intro W hW; (try subst hW); go_simp; try with_reducible rfl
        simp only [Act.put, List.setIfInBounds_toArray, List.set_cons_zero, List.set_cons_succ]
        refine rg_take rfl rfl hS (fun W hW => exec_index_str Try.underlying9 (.const (.string ⟨digL.toArray⟩)) (.tmp 24) rfl digL rfl .u8 r rfl (by rw [hdl]; exact hr16)) ?_
        simp only [Act.put, List.setIfInBounds_toArray, List.set_cons_zero, List.set_cons_succ]
        refine rg_one rfl rfl ?_; intro K hK; go_simp
        rw [dig_at q hq16, dig_at r hr16]
        have hS1 : Below w.heap.size w (wq.drew.alloc (.cells #[.int .u8 ((dig q).toNat : Int), .int .u8 ((dig r).toNat : Int)] 5)) := hS.alloc hS.size _
        refine hK _ _ (fun _ => hS1) ?_; clear hK
        refine rg_one rfl rfl ?_; intro K hK
        have hb1 : Blk (wq.drew.alloc (.cells #[.int .u8 ((dig q).toNat : Int), .int .u8 ((dig r).toNat : Int)] 5)) w.heap.size 5 (bvs (hk0 ++ List.replicate (2 * n - 2 * k) 0)) := hb.drew.alloc _
        have hy : Rd (wq.drew.alloc (.cells #[.int .u8 ((dig q).toNat : Int), .int .u8 ((dig r).toNat : Int)] 5)) (some ⟨wq.heap.size, 0, none⟩) (bvs [dig q, dig r]) := Rd.of_blk0 (es := []) (by simpa [bvs, bv] using Blk.new wq.drew 5 [.int .u8 ((dig q).toNat : Int), .int .u8 ((dig r).toNat : Int)])
        refine wp_append_fits bt (.tmp 19) (.tmp 26) rfl w.heap.size hk0 (List.replicate (2 * n - 2 * k) 0) (2 * k) (2 * n) hhl.out (by rw [hhl.out]; simp; omega) rfl hb1 (some ⟨wq.heap.size, 0, none⟩) 2 2 [dig q, dig r] rfl rfl hy (by omega) (by simp; omega) (by unfold maxLen; omega) ?_
        intro w2 hb2 hg2 hs2
        have hS2 : Below w.heap.size w w2 := hS1.grown hg2 hS1.size (by intro k hk; cases hk; exact Nat.le_refl _)
        refine hK _ _ (fun _ => hS2) ?_; clear hK
        simp only [Act.put, List.setIfInBounds_toArray, List.set_cons_zero, List.set_cons_succ]
        refine rg_take (v := ?v1_9) rfl rfl hS2 ?y1_9 ?_
        case y1_9 => intro W hW; (try subst hW); go_simp; try with_reducible rfl
        simp only [Act.put, List.setIfInBounds_toArray, List.set_cons_zero, List.set_cons_succ]
        refine rg_done (by kernel_rfl) ?_
        have hdr : List.drop 2 (List.replicate (2 * n - 2 * k) (0 : UInt8)) = List.replicate (2 * n - 2 * (k + 1)) 0 := by rw [List.drop_replicate]; congr 1 <;> omega
        rw [hdr, ← hs.out] at hb2
        clear hdr hb1 hy hg2 hs2
        go_wp2_with fail
        go_roundw
        case rel => exact ⟨k + 1, by omega, by go_num, by congr 1, hb2, hS2, hb2.lt⟩
        case measure => simp only [intOf]; omega
      · obtain rfl : k = n := by omega
        have htl : l.take k = l := List.take_of_length_le (by rw [HL.out]; exact Nat.le_refl _)
        rw [htl] at hb
        have hlen : Hid ((hexs l).length = 2 * k) := by show _ = _; rw [hexs_length, HL.out]
        have hrd : Rd wq (some ⟨w.heap.size, 0, none⟩) (bvs (hexs l)) := by rw [bvs_append] at hb; exact Rd.of_blk0 hb
        clear htl hb hb0
        go_wp2_with ((with_reducible refine at_dst 30 ?_); refine wpList_bytes_string bt rfl (.tmp 29) rfl (some ⟨w.heap.size, 0, none⟩) (2 * k) (2 * k) rfl (hexs l) hrd hlen.out ?_)
        go_ret
        exact ⟨rfl, hw⟩

set_option maxRecDepth 100000 in
set_option maxHeartbeats 1000000 in
theorem rhex_any (A : Option Addr) (n c : Nat) (l : List UInt8) (w : World) (hr : Rd w A (bvs l)) (hl : l.length = n) (hn : n ≤ 1048576) :
    Calls Try.prog 61 #[.slice A n c] w fun e w' => e = .returned (.string ⟨(hexL l).toArray⟩) ∧ Below w.heap.size w w' := by
  have HL := Lib.hid hl
  by_cases h0 : n = 0
  · subst h0
    have e : hexL l = [45] := by unfold hexL; rw [if_pos hl]
    rw [e]
    clear e hl
    go_enter Try.func61, Try.ntmps61
    go_wp2
    go_ret
    exact ⟨rfl, Below.refl _ _⟩
  · have e : hexL l = hexs l := by unfold hexL; rw [if_neg (by omega)]
    rw [e]
    clear e hl
    go_enter Try.func61, Try.ntmps61
    go_wp2_with fail
    have hnz : ((n : Int) == 0) = false := by simp; omega
    rw [hnz]
    clear hnz
    go_loopw [3, 4] (fun out i wr => ∃ k : Nat, k ≤ n ∧ i = .int .i64 (k : Int) ∧ OwnB wr w.heap.size 5 out (hexs (l.take k)) ∧ Below w.heap.size w wr) (fun _ i _ => n - (intOf i).toNat)
    case atStart => exact ⟨0, by omega, by go_num, OwnB.nil _ _ _, Below.refl _ _⟩
    case round =>
      obtain ⟨k, hk, rfl, ho, hw⟩ := hrel
      obtain ⟨wq, rfl⟩ : ∃ wq : World, wq = wr := ⟨_, rfl⟩
      by_cases hlt : k < n
      · have hkl : k < l.length := by rw [HL.out]; exact hlt
        obtain ⟨ad, rfl, hcc⟩ := hr (by rw [bvs_length, HL.out]; omega)
        have hc : w.cell? (ad.add k) = some (.int .u8 ((l[k]).toNat : Int)) := hcc k _ (by rw [bvs_get, List.getElem?_eq_getElem hkl]; rfl)
        have hs := Lib.hid (hexs_succ l k hkl)
        have hx8 : (l[k]).toNat < 256 := UInt8.toNat_lt _
        generalize (l[k]).toNat = x at *
        have hhl : Hid ((hexs (l.take k)).length = 2 * k) := by show _ = _; rw [hexs_length]; simp; omega
        generalize hexs (l.take k) = hk0 at *
        obtain ⟨q, hq⟩ : ∃ q, q = x / 16 := ⟨_, rfl⟩
        obtain ⟨r, hrr⟩ : ∃ r, r = x % 16 := ⟨_, rfl⟩
        have hq16 : q < 16 := by omega
        have hr16 : r < 16 := by omega
        have hdq : (x : Int) / 16 = (q : Int) := by omega
        have hdr : (x : Int).tmod 16 = (r : Int) := by rw [Int.tmod_eq_emod_of_nonneg (by omega)]; omega
        have hwq : IntKind.u8.wrap (q : Int) = (q : Int) := by rw [IntKind.wrap_u8]; omega
        have hwr : IntKind.u8.wrap (r : Int) = (r : Int) := by rw [IntKind.wrap_u8]; omega
        rw [← hrr, ← hq] at hs
        clear hq hrr
        have hdl : digL.length = 16 := rfl
        have hkn : (k : Int) < (n : Int) := by omega
        go_wp2_with fail
        refine rg_begin (Below w.heap.size w) [] [13, 14] [0, 1, 2, 3, 4, 5, 6, 7, 8, 9, 10, 11, 12, 13, 14, 15] 0 mixed (by kernel_rfl) (fun _ _ _ _ e hh => ⟨e.symm.trans hh.1, hh.2⟩) ?_
        simp only [pick, List.map_cons, List.map_nil, List.getD_cons_zero, List.getD_cons_succ]
        have hS : (Below w.heap.size w) _ := hw.drew
        refine rg_take (v := ?v2_0) rfl rfl hS ?y2_0 ?_
        case y2_0 => intro W hW; (try subst hW); go_simp; try with_reducible rfl
        simp only [Act.put, List.setIfInBounds_toArray, List.set_cons_zero, List.set_cons_succ]
        refine rg_take (v := ?v2_1) rfl rfl hS ?y2_1 ?_
        case y2_1 => intro W hW; (try subst hW); go_simp; try with_reducible rfl
        simp only [Act.put, List.setIfInBounds_toArray, List.set_cons_zero, List.set_cons_succ]
        refine rg_take (v := ?v2_2) rfl rfl hS ?y2_2 ?_
        case y2_2 => intro W hW; (try subst hW); go_simp; try with_reducible rfl
        simp only [Act.put, List.setIfInBounds_toArray, List.set_cons_zero, List.set_cons_succ]
        refine rg_take (v := ?v2_3) rfl rfl hS ?y2_3 ?_
        case y2_3 => intro W hW; (try subst hW); go_simp; try with_reducible rfl
        simp only [Act.put, List.setIfInBounds_toArray, List.set_cons_zero, List.set_cons_succ]
        refine rg_take (v := ?v2_4) rfl rfl hS ?y2_4 ?_
        case y2_4 => intro W hW; have hcw := (Below.cell hW (World.block_lt_of_cell? _ _ hc)).trans hc; go_simp; try with_reducible rfl
        simp only [Act.put, List.setIfInBounds_toArray, List.set_cons_zero, List.set_cons_succ]
        refine rg_take (v := ?v2_5) rfl rfl hS ?y2_5 ?_
        case y2_5 => intro W hW; (try subst hW); go_simp; try with_reducible rfl
        simp only [Act.put, List.setIfInBounds_toArray, List.set_cons_zero, List.set_cons_succ]
        refine rg_take rfl rfl hS (fun W hW => exec_index_str Try.underlying9 (.const (.string ⟨digL.toArray⟩)) (.tmp 19) rfl digL rfl .u8 q rfl (by rw [hdl]; exact hq16)) ?_
        simp only [Act.put, List.setIfInBounds_toArray, List.set_cons_zero, List.set_cons_succ]
        refine rg_take (v := ?v2_7) rfl rfl hS ?y2_7 ?_
        case y2_7 => intro W hW; (try subst hW); go_simp; try with_reducible rfl
        simp only [Act.put, List.setIfInBounds_toArray, List.set_cons_zero, List.set_cons_succ]
        refine rg_take (v := ?v2_8) rfl rfl hS ?y2_8 ?_
        case y2_8 => intro W hW; (try subst hW); go_simp; try with_reducible rfl
        simp only [Act.put, List.setIfInBounds_toArray, List.set_cons_zero, List.set_cons_succ]
        refine rg_take (v := ?v2_9) rfl rfl hS ?y2_9 ?_
        case y2_9 => intro W hW; (try subst hW); go_simp; try with_reducible rfl
        simp only [Act.put, List.setIfInBounds_toArray, List.set_cons_zero, List.set_cons_succ]
        refine rg_take (v := ?v2_10) rfl rfl hS ?y2_10 ?_
        case y2_10 => intro W hW; have hcw := (Below.cell hW (World.block_lt_of_cell? _ _ hc)).trans hc; go_simp; try with_reducible rfl
        simp only [Act.put, List.setIfInBounds_toArray, List.set_cons_zero, List.set_cons_succ]
        refine rg_take (v := ?v2_11) rfl rfl hS ?y2_11 ?_
        case y2_11 => intro W hW; (try subst hW); go_simp; try with_reducible rfl
        simp only [Act.put, List.setIfInBounds_toArray, List.set_cons_zero, List.set_cons_succ]
        refine rg_take rfl rfl hS (fun W hW => exec_index_str Try.underlying9 (.const (.string ⟨digL.toArray⟩)) (.tmp 25) rfl digL rfl .u8 r rfl (by rw [hdl]; exact hr16)) ?_
        simp only [Act.put, List.setIfInBounds_toArray, List.set_cons_zero, List.set_cons_succ]
        refine rg_one rfl rfl ?_; intro K hK; go_simp
        rw [dig_at q hq16, dig_at r hr16]
        have hS1 : Below w.heap.size w (wq.drew.alloc (.cells #[.int .u8 ((dig q).toNat : Int), .int .u8 ((dig r).toNat : Int)] 5)) := hS.alloc hS.size _
        refine hK _ _ (fun _ => hS1) ?_; clear hK
        refine rg_one rfl rfl ?_; intro K hK
        have ho1 : OwnB (wq.drew.alloc (.cells #[.int .u8 ((dig q).toNat : Int), .int .u8 ((dig r).toNat : Int)] 5)) w.heap.size 5 u3 hk0 := ho.below ((Below.refl wq.heap.size wq).drew.alloc (by simp) _) (Nat.le_refl _)
        have hy : Rd (wq.drew.alloc (.cells #[.int .u8 ((dig q).toNat : Int), .int .u8 ((dig r).toNat : Int)] 5)) (some ⟨wq.heap.size, 0, none⟩) (bvs [dig q, dig r]) := Rd.of_blk0 (es := []) (by simpa [bvs, bv] using Blk.new wq.drew 5 [.int .u8 ((dig q).toNat : Int), .int .u8 ((dig r).toNat : Int)])
        refine wp_append_bytes bt (.tmp 14) (.tmp 27) rfl w.heap.size u3 hk0 rfl ho1 (some ⟨wq.heap.size, 0, none⟩) 2 2 [dig q, dig r] rfl rfl hy (by rw [hhl.out]; omega) hS1.size ?_
        intro v2 w2 ho2 hg2 _
        have hS2 : Below w.heap.size w w2 := hS1.grown hg2 hS1.size (fun g hg => (ho1.lt g hg).1)
        refine hK _ _ (fun _ => hS2) ?_; clear hK
        simp only [Act.put, List.setIfInBounds_toArray, List.set_cons_zero, List.set_cons_succ]
        refine rg_take (v := ?v2_15) rfl rfl hS2 ?y2_15 ?_
        case y2_15 => intro W hW; (try subst hW); go_simp; try with_reducible rfl
        simp only [Act.put, List.setIfInBounds_toArray, List.set_cons_zero, List.set_cons_succ]
        refine rg_done (by kernel_rfl) ?_
        rw [← hs.out] at ho2
        go_wp2_with fail
        go_roundw
        case rel => exact ⟨k + 1, by omega, by go_num, ho2, hS2⟩
        case measure => simp only [intOf]; omega
      · obtain rfl : k = n := by omega
        have htl : l.take k = l := List.take_of_length_le (by rw [HL.out]; exact Nat.le_refl _)
        rw [htl] at ho
        obtain ⟨A1, c1, rfl, hcl, hcm, hrd⟩ := ho.rd
        have hlen : Hid ((hexs l).length = 2 * k) := by show _ = _; rw [hexs_length, HL.out]
        clear htl
        rw [hlen.out]
        go_wp2_with ((with_reducible refine at_dst 30 ?_); refine wpList_bytes_string bt rfl (.tmp 29) rfl A1 (2 * k) c1 rfl (hexs l) hrd hlen.out ?_)
        go_ret
        exact ⟨rfl, hw⟩
end Go.Proofs.Ytehbahobkgoapaa
