import Derived.Laws.BitsAllLaws
import Derived.Deep.Cut
import Derived.Deep.CutRange
import Derived.Deep.AppendLies
import Derived.Great.BuildSlice
import Derived.Great.FillDense
import Derived.Lib.SlBytesConst
import Derived.Deep.Slices
import Derived.Lib.SmallJoins
import Derived.Test.YtehbahobkgoapaaPCN1
namespace Go.Proofs.Ytehbahobkgoapaa
open Go Go.RowKit
set_option linter.unusedSimpArgs false
set_option linter.unusedVariables false
theorem stb_nil (b : List UInt8) (h : b.length = 64) : StB [] b := ⟨h, rfl⟩
set_option maxRecDepth 100000 in
set_option maxHeartbeats 1000000 in
theorem new_state (w : World) : Calls Try.prog 83 #[] w fun e w' => ∃ g, e = .returned (.pointer (some ⟨g, 0, none⟩)) ∧ w.heap.size ≤ g ∧ St w' g [] ∧ Below w.heap.size w w' := by
  have C := fun u => Lib.hid (begin_any u)
  unfold arrW at C
  go_enter Try.func83, Try.ntmps83
  go_upto_region 1 with fail
  refine wp_region_lit ?_
  refine wpList_plain rfl fun K hK => ?_; go_simp
  with_reducible refine (C _).out.mono ?_
  rintro e w1 ⟨rfl, hw1⟩
  refine hK _ _ ?_; clear hK
  (try simp only [Act.put, List.setIfInBounds_toArray, List.set_cons_zero, List.set_cons_succ])
  refine wpList_yield rfl _ (exec_build _ rfl (stC shaH (List.replicate 64 0) 0 0).toArray (by kernel_rfl)) ?_
  simp only [Act.put, List.setIfInBounds_toArray, List.set_cons_zero, List.set_cons_succ]
  refine wpList_plain rfl fun K hK => ?_; go_simp
  refine hK _ _ ?_; clear hK
  (try simp only [Act.put, List.setIfInBounds_toArray, List.set_cons_zero, List.set_cons_succ])
  refine wpList_yield rfl _ (exec_assign _ rfl) ?_
  simp only [Act.put, Act.eval, Array.getD_eq_getD_getElem?, List.getElem?_toArray, List.getElem?_cons_succ, List.getElem?_cons_zero, Option.getD_some, List.setIfInBounds_toArray, List.set_cons_zero, List.set_cons_succ]
  refine wpList_nil ?_
  go_wp2_with fail
  go_ret
  refine ⟨w1.heap.size, rfl, hw1.size, ⟨List.replicate 64 0, stb_nil _ (by simp), ?_⟩, hw1.trans (((Below.refl _ _).alloc (Nat.le_refl _) _).mono hw1.size)⟩
  exact Blk.new w1 128 (stC shaH (List.replicate 64 0) 0 0)
set_option maxRecDepth 100000 in
set_option maxHeartbeats 1000000 in
theorem none_no (g : Nat) (w : World) (hc : w.cell? ⟨g, 0, none⟩ = some (.bool true)) : Calls Try.prog 142 #[.pointer (some ⟨g, 0, none⟩)] w fun e w' => e = .returned (.bool false) ∧ w = w' := by
  go_enter Try.func142, Try.ntmps142
  go_wp2
  go_ret
  exact ⟨rfl, rfl⟩
theorem exec_load3 {w : World} {a : Act} {o : Oper} (x : Operand) (ho : o.op = .load 3 x) (ad : Addr) (v : Value) (hx : a.eval x = .pointer (some ad)) (hc : w.cell? ad = some v) : (execOp a.eval o).run Try.prog w = .ok (.value v) w := by
  obtain ⟨d, hu, hd⟩ := w3
  exact exec_load_one hu hd x ho ad v hx hc
theorem Blk.at0 {w : World} {g : Nat} {h : List Nat} {b : List UInt8} {n all : Nat} (hb : Blk w g 128 (stC h b n all)) : w.cell? ⟨g, 0, none⟩ = some (.bool true) := by rw [hb.cell]; rfl
theorem Blk.atN {w : World} {g : Nat} {h : List Nat} {b : List UInt8} {n all : Nat} (hb : Blk w g 128 (stC h b n all)) (hl : h.length = 8) (hb' : b.length = 64) : w.cell? ⟨g, 73, none⟩ = some (.int .i64 (n : Int)) := by rw [hb.cell]; exact stC_n hl hb'
theorem Blk.atA {w : World} {g : Nat} {h : List Nat} {b : List UInt8} {n all : Nat} (hb : Blk w g 128 (stC h b n all)) (hl : h.length = 8) (hb' : b.length = 64) : w.cell? ⟨g, 74, none⟩ = some (.int .i64 (all : Int)) := by rw [hb.cell]; exact stC_all hl hb'
def zst : List Value := (stC (zw 8) (zb 64) 0 0).set 0 (.bool false)
theorem zst_length : zst.length = 75 := by unfold zst; rw [List.length_set]; exact stC_length rfl rfl
theorem zero128 : Try.zeroCells128 = zst.toArray := by kernel_rfl
theorem wp_copy_mid {P : Program} {T E S : TypeId} {w : World} {o : Oper} {a : Act} {Q : Exit → Act → World → Prop} {K : Act → World → Prop} (B : BT P T E S) (d s : Operand) (ho : o.op = .call { callee := .builtin .copy, args := #[d, s], argTypes := #[T, T] })
    (g off dLen dCap : Nat) (ad : Addr) (n sCap : Nat) (hd : a.eval d = .slice (some ⟨g, off, none⟩) dLen dCap) (hs : a.eval s = .slice (some ad) n sCap)
    (t : TypeId) (cs : List Value) (l : List UInt8) (hg : Blk w g t cs) (hr : Rd w (some ad) (bvs l)) (hn : l.length = n) (hfit : off + dLen ≤ cs.length) (k : Nat) (hk : Nat.min n dLen = k)
    (h : ∀ w', Blk w' g t (splice cs off (bvs (l.take dLen))) → w.grownBy w' (some g) → w'.heap.size = w.heap.size → K (a.put o.dst (.int .i64 (k : Int))) w') :
    o.wp P a w K Q := by
  obtain ⟨i, hi, hz, hsz, hb⟩ := info_parts B.i
  subst hn
  subst hk
  have hlen : (bvs (l.take dLen)).length = Nat.min l.length dLen := by
    show _ = min l.length dLen
    simp [bvs]; omega
  have hsrc : ∀ j u, (bvs (l.take dLen))[j]? = some u → w.cell? (ad.add j) = some u := by
    intro j u hu
    by_cases h0 : 0 < (bvs l).length
    · obtain ⟨ad', e, hc⟩ := hr h0
      cases e
      apply hc
      have hj : j < (l.take dLen).length := by
        have := (List.getElem?_eq_some_iff.1 hu).1
        rwa [bvs_length] at this
      rw [bvs_get, List.getElem?_take_of_lt (by simp at hj; omega)] at hu
      rw [bvs_get, hu]
    · have : l = [] := List.eq_nil_of_length_eq_zero (by simpa [bvs] using h0)
      subst this
      simp [bvs] at hu
  have hfl : off + (bvs (l.take dLen)).length ≤ cs.length := by
    rw [hlen]; have : Nat.min l.length dLen ≤ dLen := Nat.min_le_right _ _; omega
  have hrun := run_copy_row (P := P) w T T o.type E g off dLen dCap ad l.length sCap cs.toArray t (bvs (l.take dLen)) B.t (by rw [hi]; simp [hsz]) hg hlen hsrc (by simpa using hfl) (bvs_one _)
  unfold Oper.wp
  simp [execOp, ho, resolve, invoke, builtin, hd, hs, hrun, Result.andThen]
  have := h _ (hg.row (splice cs off (bvs (l.take dLen)))) (grownBy_setRow w g _) (by simp)
  rw [← hlen] at this
  show K (a.put o.dst _) _
  simpa [goInt, splice, bvs_length] using this
def Any (_ : World) : Prop := True
theorem any_at (w : World) : Any w := trivial
section
variable {P : Program} {ops : Array Oper} {Q : Exit → Act → World → Prop} {S' : World → Prop}
theorem wpF_turn {F F' : Nat → Bool} : ∀ (fuel : Nat) (listed : Array Bool) (a : Act) (w : World), wpF P ops Q S' F' fuel listed a w → wpF P ops Q Any F fuel listed a w
  | 0, _, _, _, h => h
  | fuel + 1, _, _, _, h => ⟨h.1, fun i hi => wpOp_mono (fun a' w' h' => ⟨fun _ => trivial, wpF_turn fuel _ a' w' h'.2⟩) (h.2 i hi)⟩
/-- From here on a condition of its own. -/
theorem rg_turn {F pl : List Nat} {g : Nat} {dn : List Nat} {rest : List (Nat × Oper)} {a : Act} {w : World} (S' : World → Prop) (F' : List Nat) (hp : planned ops F' pl dn (rest.map (·.1)) = true)
    (h : wpT P ops Q S' F' pl g dn rest a w) : wpT P ops Q Any F pl g dn rest a w := by
  intro hr _ hQ
  exact wpF_turn _ _ _ _ (h hr hp hQ)
end
theorem wp_pure {P : Program} {w : World} {o : Oper} {a : Act} {Q : Exit → Act → World → Prop} {K : Act → World → Prop} {v : Value} (hr : (execOp a.eval o).run P w = .ok (.value v) w) (h : K (a.put o.dst v) w) : o.wp P a w K Q := by
  unfold Oper.wp
  rw [hr]
  exact h
theorem exec_len24 {w : World} {a : Act} {o : Oper} (x : Operand) (ho : o.op = .call { callee := .builtin .len, args := #[x], argTypes := #[24] }) (A : Option Addr) (n c : Nat) (hx : a.eval x = .slice A n c) :
    (execOp a.eval o).run Try.prog w = .ok (.value (.int .i64 (n : Int))) w := by
  unfold execOp
  simp only [ho, resolve, invoke, builtin, Sem.run_bind, Sem.run_pure, Result.andThen_ok, List.map_toArray, List.map_cons, List.map_nil, hx]
  go_simp
/-- While bytes are written: d is written, r is left. -/
def WrS (g M : Nat) (m x : List UInt8) (w : World) (v : Value) (wr : World) : Prop :=
  ∃ (d r b' : List UInt8) (A' : Option Addr) (n' c' : Nat), Hid (d ++ r = x) ∧ v = .slice A' n' c' ∧ r.length = n' ∧ (0 < n' → Lft (· = g) wr A' n' c' r) ∧ StB (m ++ d) b' ∧ Blk wr g 128 (stC (hOf (m ++ d)) b' ((m ++ d).length % 64) M) ∧ Fr (· = g) w wr
theorem rd_lft {w0 w : World} {A : Option Addr} {n c g : Nat} {x : List UInt8} (hr : Rd w0 A (bvs x)) (hl : x.length = n) (hcap : n ≤ c) (hmax : c ≤ maxLen) (h0 : 0 < n) (hb : Below w0.heap.size w0 w) (hg : w0.heap.size ≤ g) : Lft (· = g) w A n c x := by
  refine ⟨hl, hcap, hmax, hr.below hb, ?_⟩
  intro ad had e
  obtain ⟨ad', h1, h2⟩ := hr.at_ (k := 0) (by rw [bvs_length]; omega)
  rw [had] at h1
  cases h1
  have h3 := World.block_lt_of_cell? _ _ h2
  have h4 : (ad.add 0).block = ad.block := by unfold Addr.add; split <;> rfl
  rw [h4] at h3
  have h5 : ad.block = g := e
  omega
set_option maxRecDepth 100000 in
set_option maxHeartbeats 4000000 in
theorem write_state (g : Nat) (m : List UInt8) (A : Option Addr) (n c : Nat) (x : List UInt8) (w : World) (h : St w g m) (hl : x.length = n) (hx : 0 < n → Lft (· = g) w A n c x) (hb : m.length + n ≤ 4611686018427387904) :
    Calls Try.prog 84 #[.pointer (some ⟨g, 0, none⟩), .slice A n c] w fun e w' => e = .returned (.int .i64 (n : Int)) ∧ St w' g (m ++ x) ∧ Fr (· = g) w w' := by
  obtain ⟨b, hs, hblk⟩ := h
  have C := Lib.hid (none_no g w hblk.at0)
  have HHL := hOf_length m
  have hA := Lib.hid (hblk.atA HHL hs.1)
  have hset := hblk.set_ 74 (.int .i64 ((m.length + n : Nat) : Int))
  rw [stC_set_all HHL hs.1] at hset
  have hlen := Lib.hid (stC_length HHL hs.1 (n := m.length % 64) (all := m.length))
  have HX := Lib.hid hl
  have HM : Hid ((m ++ x).length = m.length + n) := Lib.hid (by rw [List.length_append, hl])
  have HS := Lib.hid hs
  have hfr : Fr (· = g) w (w.setCell ⟨g, 74, none⟩ (.int .i64 ((m.length + n : Nat) : Int))) := Fr.setCell (p := ⟨g, 74, none⟩) (Fr.refl (· = g) w) (.inl rfl) _
  obtain ⟨M, hMd⟩ : ∃ M, m.length + n = M := ⟨_, rfl⟩
  rw [hMd] at hset HM hb hfr
  have hM2 : (m.length : Int) + (n : Int) = (M : Int) := by omega
  have HM2 := Lib.hid hM2
  clear hMd hM2 hs hl
  go_enter Try.func84, Try.ntmps84
  go_upto_region 3 with (first
    | (go_at_call 142; with_reducible refine C.out.mono ?_; rintro e w1 ⟨rfl, rfl⟩))
  refine wp_region_lit ?_
  refine wpList_yield rfl _ (exec_move _ rfl) ?_
  simp only [Act.put, Act.eval, Array.getD_eq_getD_getElem?, List.getElem?_toArray, List.getElem?_cons_succ, List.getElem?_cons_zero, Option.getD_some, List.setIfInBounds_toArray, List.set_cons_zero, List.set_cons_succ]
  refine wpList_yield rfl _ (exec_nilck _ rfl _ rfl) ?_
  simp only [Act.put, List.setIfInBounds_toArray, List.set_cons_zero, List.set_cons_succ]
  refine wpList_yield rfl _ (exec_f4 _ rfl g rfl) ?_
  simp only [Act.put, List.setIfInBounds_toArray, List.set_cons_zero, List.set_cons_succ]
  refine wpList_yield rfl _ (exec_load3 _ rfl _ _ rfl hA.out) ?_
  simp only [Act.put, List.setIfInBounds_toArray, List.set_cons_zero, List.set_cons_succ]
  refine wpList_yield rfl _ (exec_move _ rfl) ?_
  simp only [Act.put, Act.eval, Array.getD_eq_getD_getElem?, List.getElem?_toArray, List.getElem?_cons_succ, List.getElem?_cons_zero, Option.getD_some, List.setIfInBounds_toArray, List.set_cons_zero, List.set_cons_succ]
  refine wpList_yield rfl _ (exec_len24 _ rfl A n c rfl) ?_
  simp only [Act.put, List.setIfInBounds_toArray, List.set_cons_zero, List.set_cons_succ]
  refine wpList_yield rfl _ (exec_iadd _ _ rfl _ _ ((M : Nat) : Int) rfl rfl HM2.out (by omega)) ?_
  simp only [Act.put, List.setIfInBounds_toArray, List.set_cons_zero, List.set_cons_succ]
  refine wpList_yield rfl _ (exec_nilck _ rfl _ rfl) ?_
  simp only [Act.put, List.setIfInBounds_toArray, List.set_cons_zero, List.set_cons_succ]
  refine wpList_yield rfl _ (exec_f4 _ rfl g rfl) ?_
  simp only [Act.put, List.setIfInBounds_toArray, List.set_cons_zero, List.set_cons_succ]
  refine wpList_store_one rfl one3 (.tmp 17) (.tmp 15) rfl g 74 128 _ (.int .i64 ((M : Nat) : Int)) rfl rfl rfl hblk (by rw [hlen.out]; decide) ?_
  (try simp only [Act.put, List.setIfInBounds_toArray, List.set_cons_zero, List.set_cons_succ])
  refine wpList_nil ?_
  clear hblk hA hlen
  generalize World.setCell w _ _ = w1 at *
  go_wp2_with fail
  go_loopw [5] (fun v wr => WrS g M m x w v wr) (fun v _ => sliceLen v)
  case atStart => exact ⟨[], x, b, A, n, c, rfl, rfl, HX.out, fun h0 => (hx h0).fr hfr (fun k e => e), by rw [List.append_nil]; exact HS.out, by rw [List.append_nil]; exact hset, hfr⟩
  case round =>
    clear hset hfr
    obtain ⟨d, r, b', A', n', c', hdr, rfl, hL, hr, hsb, hblk, hfr⟩ := hrel
    obtain ⟨N, hN⟩ : ∃ N, (m ++ d).length % 64 = N := ⟨_, rfl⟩
    have hN64 : N < 64 := by omega
    have HN := Lib.hid hN
    rw [hN] at hblk
    clear hN
    have HHD := hOf_length (m ++ d)
    by_cases h0 : 0 < n'
    · have hr := hr h0
      have hz0 : (0 : Int) < (n' : Int) := by omega
      obtain ⟨ad, rfl⟩ : ∃ ad, A' = some ad := by
        obtain ⟨ad, h, _⟩ := hr.rd.at_ (k := 0) (by rw [bvs_length]; omega)
        exact ⟨ad, h⟩
      have hcn := Lib.hid (hblk.atN HHD hsb.1)
      obtain ⟨k, hk⟩ : ∃ k, Nat.min n' (64 - N) = k := ⟨_, rfl⟩
      have hk' : min n' (64 - N) = k := hk
      have hkn : k ≤ n' := by omega
      have hkN : N + k ≤ 64 := by omega
      have hk0 : 0 < k := by omega
      have hkc : N + k < 64 → k = n' := by omega
      have HK := Lib.hid hk
      clear hk
      obtain ⟨y, hy⟩ : ∃ y, y = r.take (64 - N) := ⟨_, rfl⟩
      have hyk : y = r.take k := by
        rw [hy]
        by_cases hc : n' ≤ 64 - N
        · rw [List.take_of_length_le (by omega), List.take_of_length_le (by omega)]
        · rw [show 64 - N = k by omega]
      have hyl : y.length = k := by rw [hyk, List.length_take]; omega
      have hcut := hr.cut k hkn
      have hdr' : Hid ((d ++ y) ++ r.drop k = x) := Lib.hid (by rw [List.append_assoc, hyk, List.take_append_drop]; exact hdr.out)
      have hput : splice (stC (hOf (m ++ d)) b' N M) (9 + N) (bvs y) = stC (hOf (m ++ d)) (splice b' N y) N M := stC_put_b HHD hsb.1 N y (by omega)
      have hbl : (splice b' N y).length = 64 := by rw [splice_bytes_length _ _ _ (by rw [hsb.1]; omega)]; exact hsb.1
      have hset : (stC (hOf (m ++ d)) (splice b' N y) N M).set 73 (.int .i64 ((N + k : Nat) : Int)) = stC (hOf (m ++ d)) (splice b' N y) (N + k) M := stC_set_n HHD hbl (N + k)
      have HPUT := Lib.hid hput
      have HSET := Lib.hid hset
      have HY := Lib.hid hy
      have HYL := Lib.hid hyl
      have HBL := Lib.hid hbl
      have hfew := Lib.hid (fun (hlt : N + k < 64) => stb_few hsb y (by rw [HN.out, hyl]; exact hlt))
      have hful := Lib.hid (fun (hlt : N + k = 64) => stb_full hsb y (by rw [HN.out, hyl]; exact hlt))
      rw [HN.out] at hfew hful
      have hcl := Lib.hid (stC_length HHD hsb.1 (n := N) (all := M))
      have hcl2 := Lib.hid (stC_length HHD hbl (n := N) (all := M))
      clear hy hyk hyl hput hset hk' hL hbl
      go_upto_region 6 with fail
      refine rg_begin (fun (W : World) => World.cell? W ⟨g, 73, none⟩ = some (Value.int IntKind.i64 (N : Int))) [] [9] [0, 1, 2, 3, 4, 5, 6, 7, 8, 9, 10] 0 mixed (by kernel_rfl) (fun _ _ _ _ e hh => ⟨e.symm.trans hh.1, hh.2⟩) ?_
      simp only [pick, List.map_cons, List.map_nil, List.getD_cons_zero, List.getD_cons_succ]
      have hS : (fun (W : World) => World.cell? W ⟨g, 73, none⟩ = some (Value.int IntKind.i64 (N : Int))) _ := hcn.out
      refine rg_take (v := ?v1_0) rfl rfl hS ?y1_0 ?_
      case y1_0 => intro W hW; (try subst hW); go_simp; try with_reducible rfl
      simp only [Act.put, List.setIfInBounds_toArray, List.set_cons_zero, List.set_cons_succ]
      refine rg_take rfl rfl hS (fun W hW => exec_nilck _ rfl _ rfl) ?_
      simp only [Act.put, List.setIfInBounds_toArray, List.set_cons_zero, List.set_cons_succ]
      refine rg_take rfl rfl hS (fun W hW => exec_f2 _ rfl g rfl) ?_
      simp only [Act.put, List.setIfInBounds_toArray, List.set_cons_zero, List.set_cons_succ]
      refine rg_take (v := ?v1_3) rfl rfl hS ?y1_3 ?_
      case y1_3 => intro W hW; (try subst hW); go_simp; try with_reducible rfl
      simp only [Act.put, List.setIfInBounds_toArray, List.set_cons_zero, List.set_cons_succ]
      refine rg_take rfl rfl hS (fun W hW => exec_nilck _ rfl _ rfl) ?_
      simp only [Act.put, List.setIfInBounds_toArray, List.set_cons_zero, List.set_cons_succ]
      refine rg_take rfl rfl hS (fun W hW => exec_f3 _ rfl g rfl) ?_
      simp only [Act.put, List.setIfInBounds_toArray, List.set_cons_zero, List.set_cons_succ]
      refine rg_take rfl rfl hS (fun W hW => exec_load3 _ rfl _ _ rfl hW) ?_
      simp only [Act.put, List.setIfInBounds_toArray, List.set_cons_zero, List.set_cons_succ]
      refine rg_take rfl rfl hS (fun W hW => exec_arr_from ia97 _ _ rfl g 9 N _ rfl rfl hN64) ?_
      simp only [Act.put, List.setIfInBounds_toArray, List.set_cons_zero, List.set_cons_succ]
      refine rg_take (v := ?v1_8) rfl rfl hS ?y1_8 ?_
      case y1_8 => intro W hW; (try subst hW); go_simp; try with_reducible rfl
      simp only [Act.put, List.setIfInBounds_toArray, List.set_cons_zero, List.set_cons_succ]
      refine rg_one rfl rfl ?_; intro K hK
      refine wp_copy_mid bt (.tmp 29) (.tmp 30) rfl g (9 + N) (64 - N) (64 - N) ad n' c' rfl rfl 128 _ r hblk.drew hr.rd.drew hr.len (by rw [hcl.out]; omega) k HK.out ?_
      intro w2 hb2 hg2 hs2
      rw [← HY.out, HPUT.out] at hb2
      have hS1 := hb2.atN HHD HBL.out
      refine hK _ _ (fun _ => hS1) ?_; clear hK
      simp only [Act.put, List.setIfInBounds_toArray, List.set_cons_zero, List.set_cons_succ]
      refine rg_take (v := ?v1_10) rfl rfl hS1 ?y1_10 ?_
      case y1_10 => intro W hW; (try subst hW); go_simp; try with_reducible rfl
      simp only [Act.put, List.setIfInBounds_toArray, List.set_cons_zero, List.set_cons_succ]
      refine rg_done (by kernel_rfl) ?_
      have hfr2 : Fr (· = g) w w2 := hfr.drew.grown hg2 (by intro k hk; cases hk; exact .inl rfl)
      have hr2 : Fr (· = g) wr w2 := (Fr.refl (· = g) wr).drew.grown hg2 (by intro k hk; cases hk; exact .inl rfl)
      have hc2 := Lib.hid (hb2.atN HHD HBL.out)
      clear hg2 hs2 hblk hfr hcn
      go_upto_region 7 with fail
      refine wp_region_lit ?_
      refine wpList_yield rfl _ (exec_move _ rfl) ?_
      simp only [Act.put, Act.eval, Array.getD_eq_getD_getElem?, List.getElem?_toArray, List.getElem?_cons_succ, List.getElem?_cons_zero, Option.getD_some, List.setIfInBounds_toArray, List.set_cons_zero, List.set_cons_succ]
      refine wpList_yield rfl _ (exec_move _ rfl) ?_
      simp only [Act.put, Act.eval, Array.getD_eq_getD_getElem?, List.getElem?_toArray, List.getElem?_cons_succ, List.getElem?_cons_zero, Option.getD_some, List.setIfInBounds_toArray, List.set_cons_zero, List.set_cons_succ]
      refine wpList_yield rfl _ (exec_slice_from st24 _ _ rfl (some ad) n' c' k .i64 rfl rfl hkn) ?_
      simp only [Act.put, List.setIfInBounds_toArray, List.set_cons_zero, List.set_cons_succ]
      refine wpList_yield rfl _ (exec_assign _ rfl) ?_
      simp only [Act.put, Act.eval, Array.getD_eq_getD_getElem?, List.getElem?_toArray, List.getElem?_cons_succ, List.getElem?_cons_zero, Option.getD_some, List.setIfInBounds_toArray, List.set_cons_zero, List.set_cons_succ]
      refine wpList_nil ?_
      go_upto_region 8 with fail
      have hNk : (N : Int) + (k : Int) = ((N + k : Nat) : Int) := by omega
      have HNk := Lib.hid hNk
      obtain ⟨N2, hN2⟩ : ∃ N2, N + k = N2 := ⟨_, rfl⟩
      have HN2 := Lib.hid hN2
      rw [hN2] at hNk HNk hkN hkc HSET hfew hful
      clear hN2 hNk
      refine wp_region_lit ?_
      refine wpList_yield rfl _ (exec_move _ rfl) ?_
      simp only [Act.put, Act.eval, Array.getD_eq_getD_getElem?, List.getElem?_toArray, List.getElem?_cons_succ, List.getElem?_cons_zero, Option.getD_some, List.setIfInBounds_toArray, List.set_cons_zero, List.set_cons_succ]
      refine wpList_yield rfl _ (exec_nilck _ rfl _ rfl) ?_
      simp only [Act.put, List.setIfInBounds_toArray, List.set_cons_zero, List.set_cons_succ]
      refine wpList_yield rfl _ (exec_f3 _ rfl g rfl) ?_
      simp only [Act.put, List.setIfInBounds_toArray, List.set_cons_zero, List.set_cons_succ]
      refine wpList_yield rfl _ (exec_load3 _ rfl _ _ rfl hc2.out) ?_
      simp only [Act.put, List.setIfInBounds_toArray, List.set_cons_zero, List.set_cons_succ]
      refine wpList_yield rfl _ (exec_move _ rfl) ?_
      simp only [Act.put, Act.eval, Array.getD_eq_getD_getElem?, List.getElem?_toArray, List.getElem?_cons_succ, List.getElem?_cons_zero, Option.getD_some, List.setIfInBounds_toArray, List.set_cons_zero, List.set_cons_succ]
      refine wpList_yield rfl _ (exec_iadd _ _ rfl _ _ ((N2 : Nat) : Int) rfl rfl HNk.out (by omega)) ?_
      simp only [Act.put, List.setIfInBounds_toArray, List.set_cons_zero, List.set_cons_succ]
      refine wpList_yield rfl _ (exec_nilck _ rfl _ rfl) ?_
      simp only [Act.put, List.setIfInBounds_toArray, List.set_cons_zero, List.set_cons_succ]
      refine wpList_yield rfl _ (exec_f3 _ rfl g rfl) ?_
      simp only [Act.put, List.setIfInBounds_toArray, List.set_cons_zero, List.set_cons_succ]
      refine wpList_store_one rfl one3 (.tmp 42) (.tmp 40) rfl g 73 128 _ (.int .i64 ((N2 : Nat) : Int)) rfl rfl rfl hb2 (by rw [hcl2.out]; decide) ?_
      (try simp only [Act.put, List.setIfInBounds_toArray, List.set_cons_zero, List.set_cons_succ])
      refine wpList_nil ?_
      have hb3 := hb2.set_ 73 (.int .i64 ((N2 : Nat) : Int))
      rw [HSET.out] at hb3
      have hfr3 : Fr (· = g) w2 (w2.setCell ⟨g, 73, none⟩ (.int .i64 ((N2 : Nat) : Int))) := Fr.setCell (p := ⟨g, 73, none⟩) (Fr.refl (· = g) w2) (.inl rfl) _
      generalize World.setCell w2 _ _ = w3 at *
      have hfr4 := hfr2.trans hfr3
      have hr4 := hr2.trans hfr3
      have hrest := hcut.fr hr4 (fun k e => e)
      have hc3 := Lib.hid (hb3.atN HHD HBL.out)
      clear hfr2 hfr3 hr2 hb2 hcut hr hc2 hcl hcl2 HSET HPUT
      by_cases hful' : N2 = 64
      · obtain ⟨f1, f2, f3, f4⟩ := hful.out hful'
        subst hful'
        have C2 := fun u => Lib.hid (step_any (hOf (m ++ d)) (splice b' N y) u HHD (hOf_lt _) HBL.out)
        rw [← f2] at C2
        have HF2 := Lib.hid f2
        have HH2 := Lib.hid (hOf_length (m ++ d ++ y))
        have hcl3 := Lib.hid (stC_length HHD HBL.out (n := 64) (all := M))
        have hcl4 := Lib.hid (stC_length HH2.out HBL.out (n := 64) (all := M))
        have hdh : Hid (((stC (hOf (m ++ d)) (splice b' N y) 64 M).drop 1).take 8 = wvs (hOf (m ++ d))) := Lib.hid (stC_h HHD)
        have hdb : Hid (((stC (hOf (m ++ d)) (splice b' N y) 64 M).drop 9).take 64 = bvs (splice b' N y)) := Lib.hid (stC_b HHD HBL.out)
        have hph : Hid (splice (stC (hOf (m ++ d)) (splice b' N y) 64 M) 1 (wvs (hOf (m ++ d ++ y))) = stC (hOf (m ++ d ++ y)) (splice b' N y) 64 M) := Lib.hid (stC_put_h HHD _ HH2.out)
        have hp0 : Hid ((stC (hOf (m ++ d ++ y)) (splice b' N y) 64 M).set 73 (.int .i64 ((0 : Nat) : Int)) = stC (hOf (m ++ d ++ y)) (splice b' N y) 0 M) := Lib.hid (stC_set_n HH2.out HBL.out 0)
        have HSB := Lib.hid (f1 _ HBL.out)
        rw [HYL.out] at *
        unfold arrW arr8 at C2
        go_upto_region 10 with (first
          | ((with_reducible refine at_dst 46 ?_); refine wpList_yield rfl _ (exec_load3 _ rfl _ _ rfl hc3.out) ?_))
        refine rg_begin (Any) [] [10, 11, 12, 13, 14, 15, 16] [0, 1, 2, 3, 4, 5, 6, 7, 8, 9, 10, 11, 12, 13, 14, 15, 16] 0 mixed (by kernel_rfl) (fun _ _ _ _ e hh => ⟨e.symm.trans hh.1, hh.2⟩) ?_
        simp only [pick, List.map_cons, List.map_nil, List.getD_cons_zero, List.getD_cons_succ]
        have hS0 : (Any) _ := any_at w3.drew
        refine rg_take (v := ?v2_0) rfl rfl hS0 ?y2_0 ?_
        case y2_0 => intro W hW; (try subst hW); go_simp; try with_reducible rfl
        simp only [Act.put, List.setIfInBounds_toArray, List.set_cons_zero, List.set_cons_succ]
        refine rg_take (v := ?v2_1) rfl rfl hS0 ?y2_1 ?_
        case y2_1 => intro W hW; (try subst hW); go_simp; try with_reducible rfl
        simp only [Act.put, List.setIfInBounds_toArray, List.set_cons_zero, List.set_cons_succ]
        refine rg_take (v := ?v2_2) rfl rfl hS0 ?y2_2 ?_
        case y2_2 => intro W hW; (try subst hW); go_simp; try with_reducible rfl
        simp only [Act.put, List.setIfInBounds_toArray, List.set_cons_zero, List.set_cons_succ]
        refine rg_turn (Below w3.heap.size w3) [13, 14, 15, 16] (by kernel_rfl) ?_
        have hS : Below w3.heap.size w3 w3.drew := (Below.refl _ _).drew
        refine rg_take rfl rfl hS (fun W hW => exec_nilck _ rfl _ rfl) ?_
        simp only [Act.put, List.setIfInBounds_toArray, List.set_cons_zero, List.set_cons_succ]
        refine rg_take rfl rfl hS (fun W hW => exec_f1 _ rfl g rfl) ?_
        simp only [Act.put, List.setIfInBounds_toArray, List.set_cons_zero, List.set_cons_succ]
        refine rg_take rfl rfl hS (fun W hW => exec_load_at at96 _ rfl g 1 128 _ (wvs (hOf (m ++ d))) rfl (hb3.below hW hb3.lt) hdh.out (by rw [wvs_length]; exact HHD)) ?_
        simp only [Act.put, List.setIfInBounds_toArray, List.set_cons_zero, List.set_cons_succ]
        refine rg_take (v := ?v2_6) rfl rfl hS ?y2_6 ?_
        case y2_6 => intro W hW; (try subst hW); go_simp; try with_reducible rfl
        simp only [Act.put, List.setIfInBounds_toArray, List.set_cons_zero, List.set_cons_succ]
        refine rg_take rfl rfl hS (fun W hW => exec_nilck _ rfl _ rfl) ?_
        simp only [Act.put, List.setIfInBounds_toArray, List.set_cons_zero, List.set_cons_succ]
        refine rg_take rfl rfl hS (fun W hW => exec_f2 _ rfl g rfl) ?_
        simp only [Act.put, List.setIfInBounds_toArray, List.set_cons_zero, List.set_cons_succ]
        refine rg_take rfl rfl hS (fun W hW => exec_load_at at97 _ rfl g 9 128 _ (bvs (splice b' N y)) rfl (hb3.below hW hb3.lt) hdb.out (by rw [bvs_length]; exact HBL.out)) ?_
        simp only [Act.put, List.setIfInBounds_toArray, List.set_cons_zero, List.set_cons_succ]
        refine rg_one rfl rfl ?_; intro K hK; go_simp
        with_reducible refine (C2 _).out.mono ?_
        rintro e w5 ⟨rfl, hw5⟩
        have hS1 : Below w3.heap.size w3 w5 := Below.trans hS (hw5.mono (Below.size hS))
        refine hK _ _ (fun _ => hS1) ?_; clear hK
        refine rg_one rfl rfl ?_; intro K hK
        refine wp_pure (exec_nilck _ rfl _ rfl) ?_
        refine hK _ _ (fun _ => hS1) ?_; clear hK
        simp only [Act.put, List.setIfInBounds_toArray, List.set_cons_zero, List.set_cons_succ]
        refine rg_one rfl rfl ?_; intro K hK
        refine wp_pure (exec_f1 _ rfl g rfl) ?_
        refine hK _ _ (fun _ => hS1) ?_; clear hK
        simp only [Act.put, List.setIfInBounds_toArray, List.set_cons_zero, List.set_cons_succ]
        refine rg_one rfl rfl ?_; intro K hK
        refine wp_store_at at96.i (.tmp 60) (.tmp 58) rfl g 1 128 _ (wvs (hOf (m ++ d ++ y))) rfl rfl (hb3.below hS1 hb3.lt) (by rw [wvs_length]; exact HH2.out) (by rw [hcl3.out]; decide) (wvs_one _) ?_
        intro w6 hb6 hg6 hs6
        rw [hph.out] at hb6
        refine hK _ _ (fun h => by cases h) ?_; clear hK
        refine rg_one rfl rfl ?_; intro K hK
        refine wp_pure (exec_nilck _ rfl _ rfl) ?_
        refine hK _ _ (fun h => by cases h) ?_; clear hK
        simp only [Act.put, List.setIfInBounds_toArray, List.set_cons_zero, List.set_cons_succ]
        refine rg_one rfl rfl ?_; intro K hK
        refine wp_pure (exec_f3 _ rfl g rfl) ?_
        refine hK _ _ (fun h => by cases h) ?_; clear hK
        simp only [Act.put, List.setIfInBounds_toArray, List.set_cons_zero, List.set_cons_succ]
        refine rg_one rfl rfl ?_; intro K hK
        refine wp_store_one one3 _ _ rfl g 73 128 _ (.int .i64 0) rfl rfl rfl hb6 (by rw [hcl4.out]; decide) ?_
        refine hK _ _ (fun h => by cases h) ?_; clear hK
        refine rg_done (by kernel_rfl) ?_
        have hb7 := hb6.set_ 73 (.int .i64 0)
        rw [show (Value.int .i64 0) = .int .i64 ((0 : Nat) : Int) from rfl, hp0.out] at hb7
        have hfr7 : Fr (· = g) w3 (w6.setCell ⟨g, 73, none⟩ (.int .i64 0)) :=
          ((Fr.of_below hS1).grown hg6 (by intro k hk; cases hk; exact .inl rfl)).trans (Fr.setCell (p := ⟨g, 73, none⟩) (Fr.refl (· = g) w6) (.inl rfl) _)
        go_wp2_with fail
        go_roundw
        case rel =>
          refine ⟨d ++ y, r.drop k, splice b' N y, _, _, _, hdr', rfl, hrest.len, fun _ => hrest.fr hfr7 (fun k e => e), by rw [← List.append_assoc]; exact HSB.out, ?_, hfr4.trans hfr7⟩
          rw [← List.append_assoc, f3]
          exact hb7
        case measure => simp only [sliceLen]; omega
      · obtain ⟨f1, f2, f3⟩ := hfew.out (by omega)
        have hne : ((N2 : Int) == 64) = false := by simp; omega
        rw [HYL.out] at f3
        go_wp2_with (first
          | ((with_reducible refine at_dst 46 ?_); refine wpList_yield rfl _ (exec_load3 _ rfl _ _ rfl hc3.out) ?_))
        go_roundw
        case rel =>
          refine ⟨d ++ y, r.drop k, splice b' N y, _, _, _, hdr', rfl, hrest.len, fun _ => hrest, by rw [← List.append_assoc]; exact f1, ?_, hfr4⟩
          rw [← List.append_assoc, f2, f3, HN2.out]
          exact hb3
        case measure => simp only [sliceLen]; omega
    · obtain rfl : n' = 0 := by omega
      obtain rfl : r = [] := List.eq_nil_of_length_eq_zero hL
      obtain rfl : d = x := by have h := hdr.out; rwa [List.append_nil] at h
      clear hr
      go_upto_region 11 with fail
      refine wp_region_lit ?_
      refine wpList_yield rfl _ (exec_move _ rfl) ?_
      simp only [Act.put, Act.eval, Array.getD_eq_getD_getElem?, List.getElem?_toArray, List.getElem?_cons_succ, List.getElem?_cons_zero, Option.getD_some, List.setIfInBounds_toArray, List.set_cons_zero, List.set_cons_succ]
      refine wpList_yield rfl _ (exec_len24 _ rfl A n c rfl) ?_
      simp only [Act.put, List.setIfInBounds_toArray, List.set_cons_zero, List.set_cons_succ]
      refine wpList_yield rfl _ (exec_assign _ rfl) ?_
      simp only [Act.put, Act.eval, Array.getD_eq_getD_getElem?, List.getElem?_toArray, List.getElem?_cons_succ, List.getElem?_cons_zero, Option.getD_some, List.setIfInBounds_toArray, List.set_cons_zero, List.set_cons_succ]
      refine wpList_nil ?_
      go_wp2_with fail
      go_ret
      refine ⟨rfl, ⟨b', hsb, ?_⟩, hfr⟩
      rw [HN.out, HM.out]
      exact hblk
end Go.Proofs.Ytehbahobkgoapaa
namespace Go.Proofs.Ytehbahobkgoapaa
open Go Go.RowKit
set_option linter.unusedSimpArgs false
set_option linter.unusedVariables false
theorem exec_uand {P : Program} {w : World} {a : Act} {o : Oper} {t t' : TypeId} (x y : Operand) (ho : o.op = .binOp .and t x y t') (m n r : Nat) (hx : a.eval x = .int .u64 (m : Int)) (hy : a.eval y = .int .u64 (n : Int)) (hm : m < 18446744073709551616) (hn : n < 18446744073709551616) (hr : m &&& n = r) :
    (execOp a.eval o).run P w = .ok (.value (.int .u64 (r : Int))) w := by
  subst hr
  unfold execOp
  simp only [ho, hx, hy]
  go_simp
  rw [u64_and_nat _ _ hm hn]
theorem and_low (T : Nat) : T &&& 4294967295 = T % 4294967296 := Nat.and_two_pow_sub_one_eq_mod T 32
theorem put32_be (x : Nat) (u : World) (hx : x < 4294967296) :
    Calls Try.prog 37 #[.int .i64 (x : Int)] u fun e w' => ∃ A c, e = .returned (.tuple #[.slice A 4 c, .int .i64 0]) ∧ OwnB w' u.heap.size 5 (.slice A 4 c) (be 4 x) ∧ Below u.heap.size u w' := by
  have e1 : putE 4294967295 (x : Int) = 0 := by unfold putE; rw [if_pos (by omega)]
  have e2 : putL 4 4294967295 (x : Int) = be 4 x := by unfold putL; rw [if_pos (by omega), Int.toNat_natCast]
  refine (put32 (x : Int) u (by omega)).mono ?_
  rintro e w' ⟨v, rfl, ho, hw⟩
  rw [e1, e2] at *
  obtain ⟨A, c, rfl, _⟩ := ho.rd
  rw [be_length] at ho ⊢
  exact ⟨A, c, rfl, ho, hw⟩
theorem OwnB.lft {w : World} {base E g : Nat} {A : Option Addr} {n c : Nat} {l : List UInt8} (h : OwnB w base E (.slice A n c) l) (hg : g < base) : Lft (· = g) w A n c l := by
  obtain ⟨A', c', e, h1, h2, h3⟩ := h.rd
  injection e with e1 e2 e3
  subst e1; subst e3
  refine ⟨e2.symm, by omega, h2, h3, ?_⟩
  intro ad had e
  rcases h with ⟨h, _⟩ | ⟨g', sp, h, hb, _⟩
  · injection h with h _ _
    rw [had] at h
    cases h
  · injection h with h _ _
    rw [had] at h
    cases h
    simp at e
    omega
theorem one_lft {w : World} {g : Nat} (x : UInt8) (v : Value) (hv : bv x = v) (hg : g < w.heap.size) : Lft (· = g) (w.alloc (.cells #[v] 5)) (some ⟨w.heap.size, 0, none⟩) 1 1 [x] :=
  ⟨rfl, Nat.le_refl _, by decide, one_new w x v hv, by intro ad h e; cases h; simp at e; omega⟩
theorem fr_below {S : Nat → Prop} {a b : World} {B : Nat} (h : Fr S a b) (hS : ∀ k, S k → B ≤ k) (hB : B ≤ a.heap.size) : Below B a b :=
  ⟨h.os, h.tape, h.output, h.size, fun k hk => h.block k (by omega) (fun hs => by have := hS k hs; omega)⟩
def allOf (w : World) (g : Nat) : Nat := match w.cell? ⟨g, 74, none⟩ with
  | some (.int _ z) => z.toNat
  | _ => 0
theorem St.all {w : World} {g : Nat} {m : List UInt8} (h : St w g m) : allOf w g = m.length := by
  obtain ⟨b, hs, hb⟩ := h
  unfold allOf
  rw [hb.atA (hOf_length m) hs.1]
  simp
/-- While a copy of the state is ended: the result's block, the copy in block g. -/
structure SumS (N g : Nat) (w wr : World) (m : List UInt8) : Prop where
  bel : Below N w wr
  out : Blk wr N 25 (bvs (zb 32))
  st : St wr g m
  lt : N < g
theorem SumS.write {N g : Nat} {w wr w2 : World} {m m2 : List UInt8} (h : SumS N g w wr m) (hf : Fr (· = g) wr w2) (hs : St w2 g m2) : SumS N g w w2 m2 :=
  ⟨h.bel.trans (fr_below hf (fun k e => by rw [e]; exact Nat.le_of_lt h.lt) (Nat.le_of_lt h.out.lt)), h.out.fr hf (fun e => by have := h.lt; omega), hs, h.lt⟩
theorem SumS.below {N g : Nat} {w wr w2 : World} {m : List UInt8} (h : SumS N g w wr m) (hb : Below wr.heap.size wr w2) : SumS N g w w2 m :=
  ⟨h.bel.trans (hb.mono (Nat.le_of_lt h.out.lt)), h.out.below hb h.out.lt, h.st.below hb, h.lt⟩
theorem SumS.alloc {N g : Nat} {w wr : World} {m : List UInt8} (h : SumS N g w wr m) (o : Obj) : SumS N g w (wr.alloc o) m := h.below ((Below.refl _ _).alloc (Nat.le_refl _) o)
theorem write_one (g : Nat) (m : List UInt8) (A : Option Addr) (c : Nat) (y : UInt8) (w : World) (h : St w g m) (hx : Lft (· = g) w A 1 c [y]) (hb : m.length + 1 ≤ 4611686018427387904) :
    Calls Try.prog 84 #[.pointer (some ⟨g, 0, none⟩), .slice A 1 c] w fun e w' => e = .returned (.int .i64 1) ∧ St w' g (m ++ [y]) ∧ Fr (· = g) w w' := write_state g m A 1 c [y] w h rfl (fun _ => hx) hb
theorem splice_bvs (a y : List UInt8) (k : Nat) : splice (bvs a) k (bvs y) = bvs (splice a k y) := by
  unfold splice bvs
  simp [List.map_take, List.map_drop]
set_option maxRecDepth 100000 in
set_option maxHeartbeats 4000000 in
theorem sum_state (g : Nat) (m : List UInt8) (w : World) (h : St w g m) (hb : m.length ≤ 1152921504606846976) :
    Calls Try.prog 85 #[.pointer (some ⟨g, 0, none⟩)] w fun e w' => e = .returned (arr8 (shaL m)) ∧ Below w.heap.size w w' := by
  obtain ⟨b, hs, hblk⟩ := h
  have C := fun (u : World) (hu : u.cell? ⟨g, 0, none⟩ = some (.bool true)) => Lib.hid (none_no g u hu)
  have HHL := Lib.hid (hOf_length m)
  have hcl : Hid ((stC (hOf m) b (m.length % 64) m.length).length = 75) := Lib.hid (stC_length HHL.out hs.1)
  have h1 := stC_one (hOf m) b (m.length % 64) m.length
  have HF : Hid (∀ (w' : World) (g' : Nat), Blk w' g' 128 (stC (hOf m) b (m.length % 64) m.length) → St w' g' m) := Lib.hid (fun w' g' h => ⟨b, hs, h⟩)
  have hb0 : Blk (w.alloc (.cells (bvs (zb 32)).toArray 25)) g 128 (stC (hOf m) b (m.length % 64) m.length) := hblk.alloc _
  have hc0 := Lib.hid (hb0.at0)
  have hbz : Blk (w.alloc (.cells (bvs (zb 32)).toArray 25)) w.heap.size 25 (bvs (zb 32)) := Blk.new _ _ _
  have hw0 : Below w.heap.size w (w.alloc (.cells (bvs (zb 32)).toArray 25)) := (Below.refl _ _).alloc (Nat.le_refl _) _
  have HPA : Hid ((hOf (pad m)).flatMap (be 4) = shaL m) := Lib.hid rfl
  clear hs hblk
  generalize stC (hOf m) b (m.length % 64) m.length = cs at *
  generalize shaL m = res at *
  unfold arr8
  go_enter Try.func85, Try.ntmps85
  go_upto_region 1 with fail
  generalize hW : World.alloc w _ = w0
  have h3 : Blk w0 g 128 cs ∧ Hid (w0.cell? ⟨g, 0, none⟩ = some (.bool true)) ∧ Blk w0 w.heap.size 25 (bvs (zb 32)) ∧ Below w.heap.size w w0 := by rw [← hW]; exact ⟨hb0, hc0, hbz, hw0⟩
  clear hb0 hc0 hbz hw0 hW
  obtain ⟨hb0, hc0, hbz, hw0⟩ := h3
  go_upto_region 3 with (first
    | (go_at_call 142; with_reducible refine (C _ hc0.out).out.mono ?_; rintro e w1 ⟨rfl, rfl⟩))
  have hz0 : Blk (w0.alloc (.cells Try.zeroCells128 128)) w0.heap.size 128 zst := by rw [zero128]; exact Blk.new _ _ _
  have hz1 : Blk (w0.alloc (.cells Try.zeroCells128 128)) w.heap.size 25 (bvs (zb 32)) := hbz.alloc _
  have hz2 : Below w.heap.size w (w0.alloc (.cells Try.zeroCells128 128)) := hw0.alloc (Nat.le_of_lt hbz.lt) _
  refine wp_region_lit ?_
  refine wpList_yield rfl _ (exec_move _ rfl) ?_
  simp only [Act.put, Act.eval, Array.getD_eq_getD_getElem?, List.getElem?_toArray, List.getElem?_cons_succ, List.getElem?_cons_zero, Option.getD_some, List.setIfInBounds_toArray, List.set_cons_zero, List.set_cons_succ]
  refine wpList_yield rfl _ (exec_nilck _ rfl _ rfl) ?_
  simp only [Act.put, List.setIfInBounds_toArray, List.set_cons_zero, List.set_cons_succ]
  refine wpList_yield rfl _ (exec_load_agg at128 (.tmp 18) rfl g 128 cs rfl hb0 hcl.out) ?_
  simp only [Act.put, List.setIfInBounds_toArray, List.set_cons_zero, List.set_cons_succ]
  refine wpList_plain rfl fun K hK => ?_; go_simp
  refine hK _ _ ?_; clear hK
  (try simp only [Act.put, List.setIfInBounds_toArray, List.set_cons_zero, List.set_cons_succ])
  refine wpList_store_at at128.i rfl (.tmp 3) (.tmp 19) rfl w0.heap.size 0 128 zst cs rfl rfl hz0 hcl.out (by rw [zst_length]; exact Nat.le_refl 75) h1 ?_
  intro w2 hb2 hg2 hs2
  (try simp only [Act.put, List.setIfInBounds_toArray, List.set_cons_zero, List.set_cons_succ])
  refine wpList_nil ?_
  rw [splice_all _ _ (by rw [zst_length, hcl.out])] at hb2
  have hlt0 := hbz.lt
  have s2 : SumS w.heap.size w0.heap.size w w2 m := ⟨hz2.grown hg2 hz2.size (by intro k hk; cases hk; omega), hz1.grown hg2 (by simp; omega), HF.out _ _ hb2, hlt0⟩
  clear HF hz0 hz1 hz2 hb2 hg2 hs2 hb0 hc0 hbz hw0 C HHL
  generalize w0.heap.size = G at *
  obtain ⟨b2, hsb2, hblk2⟩ := s2.st
  have hA := Lib.hid (hblk2.atA (hOf_length m) hsb2.1)
  clear hblk2 hsb2 b2
  obtain ⟨T, hT⟩ : ∃ T, 8 * m.length = T := ⟨_, rfl⟩
  have HT := Lib.hid hT
  have HTB : Hid ((m.length : Int) * 8 = (T : Int)) := Lib.hid (by omega)
  have hTb : T ≤ 9223372036854775808 := by omega
  clear hT
  go_upto_region 4 with fail
  refine wp_region_lit ?_
  refine wpList_yield rfl _ (exec_f4 _ rfl G rfl) ?_
  simp only [Act.put, List.setIfInBounds_toArray, List.set_cons_zero, List.set_cons_succ]
  refine wpList_yield rfl _ (exec_load3 _ rfl _ _ rfl hA.out) ?_
  simp only [Act.put, List.setIfInBounds_toArray, List.set_cons_zero, List.set_cons_succ]
  refine wpList_yield rfl _ (exec_conv Try.underlying3 Try.underlying175 _ rfl .i64 (m.length : Int) (m.length : Int) rfl rfl (by rw [IntKind.wrap_u64]; omega)) ?_
  simp only [Act.put, List.setIfInBounds_toArray, List.set_cons_zero, List.set_cons_succ]
  refine wpList_yield rfl _ (exec_umul _ _ rfl (m.length : Int) 8 (T : Int) rfl rfl HTB.out (by have := HTB.out; omega)) ?_
  simp only [Act.put, List.setIfInBounds_toArray, List.set_cons_zero, List.set_cons_succ]
  refine wpList_yield rfl _ (exec_assign _ rfl) ?_
  simp only [Act.put, Act.eval, Array.getD_eq_getD_getElem?, List.getElem?_toArray, List.getElem?_cons_succ, List.getElem?_cons_zero, Option.getD_some, List.setIfInBounds_toArray, List.set_cons_zero, List.set_cons_succ]
  refine wpList_nil ?_
  go_upto_region 5 with fail
  have s3 := s2.alloc (.cells #[.int .u8 128] 5)
  have hG2 := s2.st.lt
  refine wp_region_lit ?_
  refine wpList_plain rfl fun K hK => ?_; go_simp
  refine hK _ _ ?_; clear hK
  (try simp only [Act.put, List.setIfInBounds_toArray, List.set_cons_zero, List.set_cons_succ])
  refine wpList_plain rfl fun K hK => ?_; go_simp
  with_reducible refine (write_one G m (some ⟨w2.heap.size, 0, none⟩) 1 128 _ s3.st (one_lft 128 _ rfl hG2) (by omega)).mono ?_
  rintro e w4 ⟨rfl, hs4, hf4⟩
  refine hK _ _ ?_; clear hK
  (try simp only [Act.put, List.setIfInBounds_toArray, List.set_cons_zero, List.set_cons_succ])
  refine wpList_nil ?_
  have s4 : SumS w.heap.size G w w4 (padTo m 0) := s3.write hf4 hs4
  clear s2 s3 hs4 hf4 hA hG2
  go_wp2_with fail
  have hz64 : padz m.length < 64 := padz_lt _
  go_loopw [26] (fun _ wr => ∃ j : Nat, j ≤ padz m.length ∧ SumS w.heap.size G w wr (padTo m j)) (fun _ wr => m.length + 65 - allOf wr G)
  case atStart => exact ⟨0, by omega, s4⟩
  case round =>
    clear s4
    obtain ⟨j, hj, s4⟩ := hrel
    obtain ⟨b3, hsb3, hblk3⟩ := s4.st
    obtain ⟨r, hr1⟩ : ∃ r, (m.length + 1 + j) % 64 = r := ⟨_, rfl⟩
    have hst := padTo_stop m.length j hj
    rw [hr1] at hst
    have hcn := hblk3.atN (hOf_length _) hsb3.1
    rw [padTo_length, hr1] at hcn
    have HC := Lib.hid hcn
    have hall := Lib.hid (s4.st.all)
    rw [padTo_length] at hall
    have hG4 := s4.st.lt
    clear hblk3 hsb3 b3 hr1 hcn
    by_cases hjl : j = padz m.length
    · obtain rfl : r = 56 := hst.2 hjl
      subst hjl
      clear hst hj
      obtain ⟨hi, hhi⟩ : ∃ hi, T / 4294967296 = hi := ⟨_, rfl⟩
      obtain ⟨lo, hlo⟩ : ∃ lo, T % 4294967296 = lo := ⟨_, rfl⟩
      have hhib : hi < 4294967296 := by omega
      have hlob : lo < 4294967296 := by omega
      have HHI : Hid (IntKind.i64.wrap ((T / 4294967296 : Nat) : Int) = (hi : Int)) := Lib.hid (by rw [hhi]; exact IntWalk.i64_in _ (by omega))
      have HLO : Hid (T &&& 4294967295 = lo) := Lib.hid (by rw [and_low]; exact hlo)
      have HLW : Hid (IntKind.i64.wrap (lo : Int) = (lo : Int)) := Lib.hid (IntWalk.i64_in _ (by omega))
      have HPAD : Hid ((padTo m (padz m.length) ++ be 4 hi) ++ be 4 lo = pad m) := Lib.hid (by rw [List.append_assoc, ← hhi, ← hlo, ← be_split, ← HT.out]; exact padTo_end m)
      have HPL : Hid ((padTo m (padz m.length)).length = m.length + 1 + padz m.length) := Lib.hid (padTo_length _ _)
      have P1 := fun u => Lib.hid (put32_be hi u hhib)
      have P2 := fun u => Lib.hid (put32_be lo u hlob)
      clear hhi hlo
      generalize padTo m (padz m.length) = q at *
      go_upto_region 8 with (first
        | ((with_reducible refine at_dst 27 ?_); refine wpList_yield rfl _ (exec_load3 _ rfl _ _ rfl HC.out) ?_))
      go_upto_region 10 with (first
        | ((with_reducible refine at_dst 33 ?_); refine wpList_yield rfl _ (exec_ushr _ _ rfl T 32 _ rfl rfl (by decide) 4294967296 rfl) ?_)
        | ((with_reducible refine at_dst 34 ?_); refine wpList_yield rfl _ (exec_conv Try.underlying175 Try.underlying2 _ rfl .u64 _ (hi : Int) rfl rfl HHI.out) ?_)
        | ((with_reducible refine at_dst 40 ?_); refine wpList_yield rfl _ (exec_uand _ _ rfl T 4294967295 lo rfl rfl (by omega) (by decide) HLO.out) ?_)
        | ((with_reducible refine at_dst 41 ?_); refine wpList_yield rfl _ (exec_conv Try.underlying175 Try.underlying2 _ rfl .u64 (lo : Int) (lo : Int) rfl rfl HLW.out) ?_)
        | (go_at_call 37; with_reducible refine (P1 _).out.mono ?_; rintro e w5 ⟨A5, c5, rfl, ho5, hw5⟩)
        | (go_at_call 37; with_reducible refine (P2 _).out.mono ?_; rintro e w6 ⟨A6, c6, rfl, ho6, hw6⟩))
      have s6 : SumS w.heap.size G w w6 q := (s4.below hw5).below hw6
      have hl5 : Lft (· = G) w6 A5 4 c5 (be 4 hi) := (ho5.lft hG4).fr (S := (· = G)) (T := (· = G)) (Fr.of_below hw6) (fun k e => e)
      have hl6 : Lft (· = G) w6 A6 4 c6 (be 4 lo) := ho6.lft (Nat.lt_of_lt_of_le hG4 hw5.size)
      clear s4 ho5 ho6 hw5 hw6 hG4 hall
      have hq1 : q.length + 4 ≤ 4611686018427387904 := by rw [HPL.out]; omega
      have hq2 : (q ++ be 4 hi).length + 4 ≤ 4611686018427387904 := by rw [List.length_append, be_length, HPL.out]; omega
      go_upto_region 12 with (first
        | (go_at_call 84; with_reducible refine (write_state G q A5 4 c5 (be 4 hi) w6 s6.st (be_length _ _) (fun _ => hl5) hq1).mono ?_; rintro e w7 ⟨rfl, hs7, hf7⟩)
        | (go_at_call 84; with_reducible refine (write_state G (q ++ be 4 hi) A6 4 c6 (be 4 lo) w7 hs7 (be_length _ _) (fun _ => hl6.fr hf7 (fun k e => e)) hq2).mono ?_; rintro e w8 ⟨rfl, hs8, hf8⟩))
      have s8 : SumS w.heap.size G w w8 (pad m) := by
        rw [← HPAD.out]
        exact (s6.write hf7 hs7).write hf8 hs8
      clear s6 hl5 hl6 hs7 hf7 hs8 hf8 hq1 hq2 HPAD HPL P1 P2
      generalize pad m = P at *
      have t1 := s8.alloc (.cells (bvs (zb 32)).toArray 25)
      have t2 : Blk (w8.alloc (.cells (bvs (zb 32)).toArray 25)) w8.heap.size 25 (bvs (outW (hOf P) 0)) := by rw [outW_zero]; exact Blk.new _ _ _
      have hG8 := s8.out.lt
      clear s8
      go_upto_region 13 with fail
      generalize hW : World.alloc w8 _ = w9
      have h3 : SumS w.heap.size G w w9 P ∧ Blk w9 w8.heap.size 25 (bvs (outW (hOf P) 0)) := by rw [← hW]; exact ⟨t1, t2⟩
      clear hW t1 t2
      obtain ⟨t1, t2⟩ := h3
      generalize w8.heap.size = G2 at *
      have hHL := hOf_length P
      have hHT := hOf_lt P
      obtain ⟨b4, hsb4, hblk4⟩ := t1.st
      have hdh : Hid (((stC (hOf P) b4 (P.length % 64) P.length).drop 1).take 8 = wvs (hOf P)) := Lib.hid (stC_h hHL)
      have t3 := t1.bel
      have t4 := t1.out
      clear t1 hsb4
      generalize hOf P = H at *
      have HHL := Lib.hid hHL
      refine wp_region_lit ?_
      refine wpList_yield rfl _ (exec_f1 _ rfl G rfl) ?_
      simp only [Act.put, List.setIfInBounds_toArray, List.set_cons_zero, List.set_cons_succ]
      refine wpList_yield rfl _ (exec_load_at at96 _ rfl G 1 128 _ (wvs H) rfl hblk4 hdh.out (by rw [wvs_length]; exact HHL.out)) ?_
      simp only [Act.put, List.setIfInBounds_toArray, List.set_cons_zero, List.set_cons_succ]
      refine wpList_yield rfl _ (exec_move _ rfl) ?_
      simp only [Act.put, Act.eval, Array.getD_eq_getD_getElem?, List.getElem?_toArray, List.getElem?_cons_succ, List.getElem?_cons_zero, Option.getD_some, List.setIfInBounds_toArray, List.set_cons_zero, List.set_cons_succ]
      refine wpList_nil ?_
      have hHlt : Hid (∀ d, d < 8 → H[d]? = some (H.getD d 0)) := Lib.hid (fun d hd => getD_some H d (by rw [HHL.out]; exact hd))
      have hH32 : Hid (∀ d, H.getD d 0 < 4294967296) := Lib.hid (fun d => ext_get_lt H d hHT)
      have hOS := Lib.hid (fun (i : Nat) (hi : i < 8) => outW_step H i hHL hi)
      have hOL := Lib.hid (fun (i : Nat) (hi : i ≤ 8) => outW_length H i hHL hi)
      have hOE : Hid (outW H 8 = res) := Lib.hid (by rw [outW_end H hHL]; exact HPA.out)
      clear hdh hblk4 hHL HPA hHT
      go_wp2_with fail
      go_loopw [51] (fun v wr => ∃ i : Nat, i ≤ 8 ∧ v = .int .i64 (i : Int) ∧ Blk wr G2 25 (bvs (outW H i)) ∧ Blk wr w.heap.size 25 (bvs (zb 32)) ∧ Below w.heap.size w wr) (fun v _ => 8 - (intOf v).toNat)
      case atStart => exact ⟨0, by omega, by go_num, t2, t4, t3⟩
      case round =>
        clear t2 t3 t4
        obtain ⟨i, hi8, rfl, t2, t4, t3⟩ := hrel
        by_cases hil : i < 8
        · have hiz : (i : Int) < 8 := by omega
          obtain ⟨x, hx⟩ : ∃ x, x = H.getD i 0 := ⟨_, rfl⟩
          have ex : Hid (H[i]? = some x) := Lib.hid (by rw [hx]; exact hHlt.out i hil)
          have hx32 : x < 4294967296 := by rw [hx]; exact hH32.out i
          have HS : Hid (splice (outW H i) (4 * i) (be 4 x) = outW H (i + 1)) := Lib.hid (by rw [hx]; exact hOS.out i hil)
          have HQL := Lib.hid (hOL.out i hi8)
          have HXW : Hid (IntKind.i64.wrap (x : Int) = (x : Int)) := Lib.hid (IntWalk.i64_in _ (by omega))
          have P3 := fun u => Lib.hid (put32_be x u hx32)
          have hG2 := t2.lt
          clear hx
          go_upto_region 15 with fail
          refine wp_region_lit ?_
          refine wpList_yield rfl _ (exec_move _ rfl) ?_
          simp only [Act.put, Act.eval, Array.getD_eq_getD_getElem?, List.getElem?_toArray, List.getElem?_cons_succ, List.getElem?_cons_zero, Option.getD_some, List.setIfInBounds_toArray, List.set_cons_zero, List.set_cons_succ]
          refine wpList_yield rfl _ (exec_index_agg _ _ rfl H i .i64 x rfl rfl HHL.out ex.out) ?_
          simp only [Act.put, List.setIfInBounds_toArray, List.set_cons_zero, List.set_cons_succ]
          refine wpList_yield rfl _ (exec_assign _ rfl) ?_
          simp only [Act.put, Act.eval, Array.getD_eq_getD_getElem?, List.getElem?_toArray, List.getElem?_cons_succ, List.getElem?_cons_zero, Option.getD_some, List.setIfInBounds_toArray, List.set_cons_zero, List.set_cons_succ]
          refine wpList_yield rfl _ (exec_assign _ rfl) ?_
          simp only [Act.put, Act.eval, Array.getD_eq_getD_getElem?, List.getElem?_toArray, List.getElem?_cons_succ, List.getElem?_cons_zero, Option.getD_some, List.setIfInBounds_toArray, List.set_cons_zero, List.set_cons_succ]
          refine wpList_nil ?_
          go_upto_region 17 with (first
            | ((with_reducible refine at_dst 57 ?_); refine wpList_yield rfl _ (exec_conv Try.underlying94 Try.underlying2 _ rfl .u32 (x : Int) (x : Int) rfl rfl HXW.out) ?_)
            | (go_at_call 37; with_reducible refine (P3 _).out.mono ?_; rintro e w10 ⟨A7, c7, rfl, ho7, hw7⟩))
          obtain ⟨A8, c8, e8, h8, h9, hrd⟩ := ho7.rd
          injection e8 with e9 e10 e11
          subst e9; subst e11
          clear e10 h8 h9
          have t5 := t2.below hw7 hG2
          refine wp_region_lit ?_
          refine wpList_yield rfl _ (exec_move _ rfl) ?_
          simp only [Act.put, Act.eval, Array.getD_eq_getD_getElem?, List.getElem?_toArray, List.getElem?_cons_succ, List.getElem?_cons_zero, Option.getD_some, List.setIfInBounds_toArray, List.set_cons_zero, List.set_cons_succ]
          refine wpList_yield rfl _ (exec_imul _ _ rfl _ _ (((4 * i : Nat) : Int)) rfl rfl (by omega) (by omega)) ?_
          simp only [Act.put, List.setIfInBounds_toArray, List.set_cons_zero, List.set_cons_succ]
          refine wpList_yield rfl _ (exec_arr_from ia25 _ _ rfl G2 0 (4 * i) _ rfl rfl (by omega)) ?_
          simp only [Act.put, List.setIfInBounds_toArray, List.set_cons_zero, List.set_cons_succ]
          refine wpList_yield rfl _ (exec_move _ rfl) ?_
          simp only [Act.put, Act.eval, Array.getD_eq_getD_getElem?, List.getElem?_toArray, List.getElem?_cons_succ, List.getElem?_cons_zero, Option.getD_some, List.setIfInBounds_toArray, List.set_cons_zero, List.set_cons_succ]
          refine wpList_copy_mid bt rfl (.tmp 63) (.tmp 64) rfl G2 (0 + 4 * i) (32 - 4 * i) (32 - 4 * i) A7 4 c7 rfl rfl 25 (bvs (outW H i)) (be 4 x) t5 hrd (be_length _ _) (by rw [bvs_length, HQL.out]; omega) ?_
          intro w11 hb11 hg11 hs11
          (try simp only [Act.put, List.setIfInBounds_toArray, List.set_cons_zero, List.set_cons_succ])
          refine wpList_nil ?_
          rw [List.take_of_length_le (by rw [be_length]; omega), splice_bvs, Nat.zero_add, HS.out] at hb11
          have t6 : Below w.heap.size w w11 := (t3.trans (hw7.mono (Nat.le_of_lt t4.lt))).grown hg11 (by have := t4.lt; have := hw7.size; omega) (by intro k hk; cases hk; omega)
          have t7 := (t4.below hw7 t4.lt).grown hg11 (by simp; omega)
          go_wp2_with fail
          go_roundw
          case rel => exact ⟨i + 1, by omega, by go_num, hb11, t7, t6⟩
          case measure => simp only [intOf]; omega
        · obtain rfl : i = 8 := by omega
          rw [hOE.out] at t2
          have hrl : Hid (res.length = 32) := Lib.hid (by rw [← hOE.out]; exact hOL.out 8 (Nat.le_refl _))
          clear hOE hOL hOS hHlt hH32
          go_upto_region 19 with fail
          refine wp_region_lit ?_
          refine wpList_yield rfl _ (exec_load_agg at25w (.tmp 9) rfl _ 25 (bvs res) rfl t2 (by rw [bvs_length]; exact hrl.out)) ?_
          simp only [Act.put, List.setIfInBounds_toArray, List.set_cons_zero, List.set_cons_succ]
          refine wpList_store_at at25w.i rfl (.tmp 2) (.tmp 67) rfl w.heap.size 0 25 (bvs (zb 32)) (bvs res) rfl rfl t4 (by rw [bvs_length]; exact hrl.out) (by rw [bvs_length, zb_length]; omega) (bvs_one _) ?_
          intro w1 hb1 hg1 hs1
          (try simp only [Act.put, List.setIfInBounds_toArray, List.set_cons_zero, List.set_cons_succ])
          refine wpList_nil ?_
          go_wp2_with fail
          (try simp only [Exit.inBlock, Exit.then])
          rw [splice_all _ _ (by rw [bvs_length, bvs_length, zb_length]; exact hrl.out.symm)] at hb1
          refine bodyPost_ret (ret_cell rfl at25w _ _ w.heap.size 25 (bvs res) rfl hb1 (by rw [bvs_length]; exact hrl.out)) rfl ?_
          exact ⟨rfl, t3.grown hg1 t3.size (by intro k hk; cases hk; omega)⟩
    · have hrne : ((r : Int) == 56) = false := by
        have h := fun e => hjl (hst.1 e)
        simp; omega
      have t4 := s4.alloc (.cells #[.int .u8 0] 5)
      have hbd : (padTo m j).length + 1 ≤ 4611686018427387904 := by rw [padTo_length]; omega
      clear hst
      go_wp2_with (first
        | ((with_reducible refine at_dst 27 ?_); refine wpList_yield rfl _ (exec_load3 _ rfl _ _ rfl HC.out) ?_)
        | (go_at_call 84; with_reducible refine (write_one G (padTo m j) (some ⟨wr.heap.size, 0, none⟩) 1 0 _ t4.st (one_lft 0 _ rfl hG4) hbd).mono ?_; rintro e w5 ⟨rfl, hs5, hf5⟩))
      have s5 : SumS w.heap.size G w w5 (padTo m (j + 1)) := by
        rw [← padTo_succ]
        exact t4.write hf5 hs5
      go_roundw
      case rel => exact ⟨j + 1, by omega, s5⟩
      case measure =>
        have e1 := s5.st.all
        have e2 := hall.out
        rw [padTo_length] at e1
        omega
set_option maxRecDepth 100000 in
set_option maxHeartbeats 1000000 in
theorem sum_any (A : Option Addr) (n c : Nat) (b : List UInt8) (w : World) (hr : Rd w A (bvs b)) (hl : b.length = n) (hcap : n ≤ c) (hmax : c ≤ maxLen) (hn : n ≤ 1152921504606846976) :
    Calls Try.prog 79 #[.slice A n c] w fun e w' => e = .returned (arr8 (shaL b)) ∧ Below w.heap.size w w' := by
  have hbz : Blk (w.alloc (.cells (bvs (zb 32)).toArray 25)) w.heap.size 25 (bvs (zb 32)) := Blk.new _ _ _
  have hw0 : Below w.heap.size w (w.alloc (.cells (bvs (zb 32)).toArray 25)) := (Below.refl _ _).alloc (Nat.le_refl _) _
  have C1 := fun u => Lib.hid (new_state u)
  have HRL : Hid ((shaL b).length = 32) := Lib.hid (shaL_length b)
  have C3 := fun (g : Nat) (u : World) (h : St u g b) => Lib.hid (sum_state g b u h (by rw [hl]; exact hn))
  generalize shaL b = res at *
  unfold arr8 at *
  go_enter Try.func79, Try.ntmps79
  go_upto_region 1 with fail
  generalize hW : World.alloc w _ = w0
  have h3 : Blk w0 w.heap.size 25 (bvs (zb 32)) ∧ Below w.heap.size w w0 := by rw [← hW]; exact ⟨hbz, hw0⟩
  clear hW hbz hw0
  obtain ⟨hbz, hw0⟩ := h3
  have hz := hbz.lt
  go_upto_region 2 with (first
    | (go_at_call 83; with_reducible refine (C1 _).out.mono ?_; rintro e w1 ⟨g, rfl, hg, hs1, hw1⟩))
  have hw01 : Below w.heap.size w w1 := hw0.trans (hw1.mono hw0.size)
  go_upto_region 3 with (first
    | (go_at_call 84; with_reducible refine (write_state g [] A n c b w1 hs1 hl (fun h0 => rd_lft hr hl hcap hmax h0 hw01 (by omega)) (by rw [List.length_nil]; omega)).mono ?_; rintro e w2 ⟨rfl, hs2, hf2⟩))
  rw [List.nil_append] at hs2
  have hw02 : Below w.heap.size w w2 := hw01.trans (fr_below hf2 (fun k e => by rw [e]; omega) hw01.size)
  have hbz2 := (hbz.below hw1 hz).fr hf2 (fun e => by omega)
  refine wp_region_lit ?_
  refine wpList_yield rfl _ (exec_move _ rfl) ?_
  simp only [Act.put, Act.eval, Array.getD_eq_getD_getElem?, List.getElem?_toArray, List.getElem?_cons_succ, List.getElem?_cons_zero, Option.getD_some, List.setIfInBounds_toArray, List.set_cons_zero, List.set_cons_succ]
  refine wpList_plain rfl fun K hK => ?_; go_simp
  with_reducible refine (C3 g w2 hs2).out.mono ?_
  rintro e w3 ⟨rfl, hw3⟩
  refine hK _ _ ?_; clear hK
  (try simp only [Act.put, List.setIfInBounds_toArray, List.set_cons_zero, List.set_cons_succ])
  refine wpList_store_at at25w.i rfl (.tmp 2) (.tmp 9) rfl w.heap.size 0 25 (bvs (zb 32)) (bvs res) rfl rfl (hbz2.below hw3 hbz2.lt) (by rw [bvs_length]; exact HRL.out) (by rw [bvs_length, zb_length]; omega) (bvs_one _) ?_
  intro w4 hb4 hg4 hs4
  (try simp only [Act.put, List.setIfInBounds_toArray, List.set_cons_zero, List.set_cons_succ])
  refine wpList_nil ?_
  go_wp2_with fail
  (try simp only [Exit.inBlock, Exit.then])
  rw [splice_all _ _ (by rw [bvs_length, bvs_length, zb_length]; exact HRL.out.symm)] at hb4
  refine bodyPost_ret (ret_cell rfl at25w _ _ w.heap.size 25 (bvs res) rfl hb4 (by rw [bvs_length]; exact HRL.out)) rfl ?_
  exact ⟨rfl, (hw02.trans (hw3.mono hw02.size)).grown hg4 (by have := hw02.size; have := hw3.size; omega) (by intro k hk; cases hk; omega)⟩
end Go.Proofs.Ytehbahobkgoapaa
namespace Go.Proofs.Ytehbahobkgoapaa
open Go Go.RowKit Go.ChangeShapes Go.WideShapes Go.ChangeAt
set_option linter.unusedSimpArgs false
set_option linter.unusedVariables false
section
variable {P : Program} (w : World)
end
section
variable {P : Program} {H : Type} {enc : TypeId × Value → H} {W : World} {base : Nat}
end
theorem ab25 : AB Try.prog 25 32 := ⟨⟨5, Try.underlying25, Try.underlying5, by kernel_rfl⟩, by kernel_rfl⟩
end Go.Proofs.Ytehbahobkgoapaa
namespace Go.Proofs.Ytehbahobkgoapaa
open Go Go.RowKit
set_option linter.unusedSimpArgs false
set_option linter.unusedVariables false
theorem exec_neq_same {P : Program} {w : World} {a : Act} {o : Oper} {T T' n : Nat} (B : AB P T n) (x y : Operand) (ho : o.op = .binOp .neq T x y T') (xs : List UInt8) (ex : a.eval x = .agg (bvs xs).toArray) (ey : a.eval y = .agg (bvs xs).toArray) (hx : xs.length = n) :
    (execOp a.eval o).run P w = .ok (.value (.bool false)) w := by
  have h := exec_neq_arr (w := w) B x y ho xs xs ex ey hx hx
  rw [h]
  simp
end Go.Proofs.Ytehbahobkgoapaa
namespace Go.Proofs.Ytehbahobkgoapaa
open Go Go.RowKit
set_option linter.unusedSimpArgs false
set_option linter.unusedVariables false
theorem OwnB.fr {S : Nat → Prop} {w w' : World} {base E : Nat} {v : Value} {l : List UInt8} (h : OwnB w base E v l) (hf : Fr S w w') (hv : ∀ k, v.ownBlock = some k → ¬ S k) : OwnB w' base E v l := by
  rcases h with h | ⟨g, sp, e, hg, hm, hb⟩
  · exact .inl h
  · exact .inr ⟨g, sp, e, hg, hm, hb.fr hf (hv g (by rw [e]; rfl))⟩
end Go.Proofs.Ytehbahobkgoapaa
namespace Go.Proofs.Ytehbahobkgoapaa
open Go Go.RowKit
set_option linter.unusedSimpArgs false
set_option linter.unusedVariables false
theorem Fr.cell {S : Nat → Prop} {a b : World} {p : Addr} {u : Value} (h : Fr S a b) (hc : a.cell? p = some u) (hp : ¬ S p.block) : b.cell? p = some u := by
  have hlt := World.block_lt_of_cell? a _ hc
  rw [World.cell?_of_block (h.block _ hlt hp)]
  exact hc
end Go.Proofs.Ytehbahobkgoapaa
namespace Go.Proofs.Ytehbahobkgoapaa
open Go Go.RowKit
set_option linter.unusedSimpArgs false
set_option linter.unusedVariables false
theorem exec_eql_same {P : Program} {w : World} {a : Act} {o : Oper} {T T' n : Nat} (B : AB P T n) (x y : Operand) (ho : o.op = .binOp .eql T x y T') (xs : List UInt8) (ex : a.eval x = .agg (bvs xs).toArray) (ey : a.eval y = .agg (bvs xs).toArray) (hx : xs.length = n) :
    (execOp a.eval o).run P w = .ok (.value (.bool true)) w := by
  have h := exec_eql_arr (w := w) B x y ho xs xs ex ey hx hx
  rw [h]
  simp
theorem bthen {B : Nat} {a b c : World} (h : Below B a b) (k : Below b.heap.size b c) (hB : B ≤ b.heap.size) : Below B a c := h.trans (k.mono hB)
end Go.Proofs.Ytehbahobkgoapaa
namespace Go.Proofs.Ytehbahobkgoapaa
open Go Go.RowKit
set_option linter.unusedSimpArgs false
set_option linter.unusedVariables false
def capOf : Value → Nat
  | .slice _ _ c => c
  | _ => 0
theorem sz24 : (Try.prog.info? 24).map (·.size) = some 1 := by kernel_rfl
theorem w24 : ∃ d, Try.prog.underlying 24 = some d ∧ d.isRow = false := ⟨_, Try.underlying24, rfl⟩
theorem exec_load24 {w : World} {a : Act} {o : Oper} (x : Operand) (ho : o.op = .load 24 x) (ad : Addr) (v : Value) (hx : a.eval x = .pointer (some ad)) (hc : w.cell? ad = some v) : (execOp a.eval o).run Try.prog w = .ok (.value v) w := by
  obtain ⟨d, hu, hd⟩ := w24
  exact exec_load_one hu hd x ho ad v hx hc
theorem exec_len30 {w : World} {a : Act} {o : Oper} (x : Operand) (ho : o.op = .call { callee := .builtin .len, args := #[x], argTypes := #[30] }) (A : Option Addr) (n c : Nat) (hx : a.eval x = .slice A n c) :
    (execOp a.eval o).run Try.prog w = .ok (.value (.int .i64 (n : Int))) w := by
  unfold execOp
  simp only [ho, resolve, invoke, builtin, Sem.run_bind, Sem.run_pure, Result.andThen_ok, List.map_toArray, List.map_cons, List.map_nil, hx]
  go_simp
theorem one_lft8 {w : World} {g : Nat} (x : UInt8) (hg : g < w.heap.size) : Lft (· = g) (w.alloc (.cells #[.int .u8 (x.toNat : Int)] 5)) (some ⟨w.heap.size, 0, none⟩) 1 1 [x] := one_lft x _ rfl hg
set_option maxRecDepth 100000 in
set_option maxHeartbeats 4000000 in
theorem tagof_any (t : UInt8) (A : Option Addr) (n c : Nat) (vs : List Value) (ls : List (List UInt8)) (w : World) (hl : ls.length = n) (hr : Rd w A vs) (ha : AllRd w vs ls) (hmx : ∀ (i : Nat) (v : Value), vs[i]? = some v → capOf v ≤ maxLen)
    (hn : n ≤ 1099511627776) (hb : ls.flatten.length + 1 ≤ 140737488355328) :
    Calls Try.prog 88 #[.int .u8 (t.toNat : Int), .slice A n c] w fun e w' => e = .returned (arr8 (shaL (t :: ls.flatten))) ∧ Below w.heap.size w w' := by
  have HL := Lib.hid hl
  have HM := Lib.hid hmx
  have hbz : Blk (w.alloc (.cells (bvs (zb 32)).toArray 25)) w.heap.size 25 (bvs (zb 32)) := Blk.new _ _ _
  have hw0 : Below w.heap.size w (w.alloc (.cells (bvs (zb 32)).toArray 25)) := (Below.refl _ _).alloc (Nat.le_refl _) _
  have C1 := fun u => Lib.hid (new_state u)
  have HRL : Hid ((shaL (t :: ls.flatten)).length = 32) := Lib.hid (shaL_length _)
  have C3 := fun (g : Nat) (u : World) (h : St u g (t :: ls.flatten)) => Lib.hid (sum_state g (t :: ls.flatten) u h (by simp only [List.length_cons]; omega))
  clear hl hmx
  generalize shaL (t :: ls.flatten) = res at *
  unfold arr8 at *
  go_enter Try.func88, Try.ntmps88
  go_upto_region 1 with fail
  generalize hW : World.alloc w _ = w0
  have h3 : Blk w0 w.heap.size 25 (bvs (zb 32)) ∧ Below w.heap.size w w0 := by rw [← hW]; exact ⟨hbz, hw0⟩
  clear hW hbz hw0
  obtain ⟨hbz, hw0⟩ := h3
  have hz := hbz.lt
  go_upto_region 2 with (first
    | (go_at_call 83; with_reducible refine (C1 _).out.mono ?_; rintro e w1 ⟨g, rfl, hg, hs1, hw1⟩))
  have hg1 := hs1.lt
  have hs1a : St (w1.alloc (.cells #[.int .u8 (t.toNat : Int)] 5)) g [] := hs1.below ((Below.refl _ _).alloc (Nat.le_refl _) _)
  have W1 := Lib.hid (write_one g [] (some ⟨w1.heap.size, 0, none⟩) 1 t _ hs1a (one_lft8 t hg1) (by simp))
  refine wp_region_lit ?_
  refine wpList_yield rfl _ (exec_move _ rfl) ?_
  simp only [Act.put, Act.eval, Array.getD_eq_getD_getElem?, List.getElem?_toArray, List.getElem?_cons_succ, List.getElem?_cons_zero, Option.getD_some, List.setIfInBounds_toArray, List.set_cons_zero, List.set_cons_succ]
  refine wpList_yield rfl _ (exec_move _ rfl) ?_
  simp only [Act.put, Act.eval, Array.getD_eq_getD_getElem?, List.getElem?_toArray, List.getElem?_cons_succ, List.getElem?_cons_zero, Option.getD_some, List.setIfInBounds_toArray, List.set_cons_zero, List.set_cons_succ]
  refine wpList_plain rfl fun K hK => ?_; go_simp
  refine hK _ _ ?_; clear hK
  (try simp only [Act.put, List.setIfInBounds_toArray, List.set_cons_zero, List.set_cons_succ])
  refine wpList_plain rfl fun K hK => ?_; go_simp
  with_reducible refine W1.out.mono ?_
  rintro e w2 ⟨rfl, hs2, hf2⟩
  refine hK _ _ ?_; clear hK
  (try simp only [Act.put, List.setIfInBounds_toArray, List.set_cons_zero, List.set_cons_succ])
  refine wpList_nil ?_
  rw [List.nil_append] at hs2
  have hb1 : Below w.heap.size w (w1.alloc (.cells #[.int .u8 (t.toNat : Int)] 5)) := (hw0.trans (hw1.mono hw0.size)).alloc (by have := hw1.size; omega) _
  have hgw : w.heap.size < g := by omega
  have hb2 : Below w.heap.size w w2 := hb1.trans (fr_below hf2 (fun k e => by rw [e]; omega) hb1.size)
  have hz2 : Blk w2 w.heap.size 25 (bvs (zb 32)) := ((hbz.below hw1 hz).alloc _).fr hf2 (fun e => by omega)
  have hs2' : St w2 g (t :: (ls.take 0).flatten) := by simpa using hs2
  clear W1 hs1 hs1a hf2 hb1 hg1 hbz hw0 hz hw1 C1 hs2
  go_upto_region 3 with fail
  refine wp_region_lit ?_
  refine wpList_yield rfl _ (exec_move _ rfl) ?_
  simp only [Act.put, Act.eval, Array.getD_eq_getD_getElem?, List.getElem?_toArray, List.getElem?_cons_succ, List.getElem?_cons_zero, Option.getD_some, List.setIfInBounds_toArray, List.set_cons_zero, List.set_cons_succ]
  refine wpList_yield rfl _ (exec_len30 _ rfl A n c rfl) ?_
  simp only [Act.put, List.setIfInBounds_toArray, List.set_cons_zero, List.set_cons_succ]
  refine wpList_yield rfl _ (exec_move _ rfl) ?_
  simp only [Act.put, Act.eval, Array.getD_eq_getD_getElem?, List.getElem?_toArray, List.getElem?_cons_succ, List.getElem?_cons_zero, Option.getD_some, List.setIfInBounds_toArray, List.set_cons_zero, List.set_cons_succ]
  refine wpList_nil ?_
  go_wp2_with fail
  go_loopw [15] (fun i wr => ∃ k : Nat, k ≤ n ∧ i = .int .i64 (k : Int) ∧ St wr g (t :: (ls.take k).flatten) ∧ Blk wr w.heap.size 25 (bvs (zb 32)) ∧ Below w.heap.size w wr) (fun i _ => n - (intOf i).toNat)
  case atStart => exact ⟨0, by omega, by go_num, hs2', hz2, hb2⟩
  case round =>
    clear hs2' hz2 hb2
    obtain ⟨k, hk, rfl, hs2, hz2, hb2⟩ := hrel
    by_cases hlt : k < n
    · have hltz : (k : Int) < (n : Int) := by omega
      have hkl : k < ls.length := by rw [HL.out]; exact hlt
      obtain ⟨v, hv⟩ : ∃ v, vs[k]? = some v := ⟨_, List.getElem?_eq_getElem (by have := ha.1; omega)⟩
      obtain ⟨ad, rfl, hcc⟩ := hr (by have := ha.1; omega)
      have hc := Lib.hid ((hb2.cell (World.block_lt_of_cell? w _ (hcc k v hv))).trans (hcc k v hv))
      obtain ⟨A1, d1, rfl, hd1, hrd⟩ := ha.2 k v ls[k] hv (List.getElem?_eq_getElem hkl)
      have hlen := flatten_take_len ls k hkl
      have HF := Lib.hid (flatten_take_succ ls k hkl)
      have hmd : d1 ≤ maxLen := HM.out k _ hv
      have W2 := Lib.hid (write_state g (t :: (ls.take k).flatten) A1 ls[k].length d1 ls[k] wr hs2 rfl (fun h0 => rd_lft hrd rfl hd1 hmd h0 hb2 (Nat.le_of_lt hgw)) (by simp only [List.length_cons]; omega))
      go_upto_region 5 with fail
      refine wp_region_lit ?_
      refine wpList_yield rfl _ (exec_sia Try.underlying30 sz24 _ _ rfl ad n c k _ rfl rfl hlt) ?_
      simp only [Act.put, List.setIfInBounds_toArray, List.set_cons_zero, List.set_cons_succ]
      refine wpList_yield rfl _ (exec_load24 _ rfl _ _ rfl hc.out) ?_
      simp only [Act.put, List.setIfInBounds_toArray, List.set_cons_zero, List.set_cons_succ]
      refine wpList_yield rfl _ (exec_assign _ rfl) ?_
      simp only [Act.put, Act.eval, Array.getD_eq_getD_getElem?, List.getElem?_toArray, List.getElem?_cons_succ, List.getElem?_cons_zero, Option.getD_some, List.setIfInBounds_toArray, List.set_cons_zero, List.set_cons_succ]
      refine wpList_nil ?_
      go_wp2_with (first
        | (go_at_call 84; with_reducible refine W2.out.mono ?_; rintro e w3 ⟨rfl, hs3, hf3⟩))
      go_roundw
      case rel =>
        refine ⟨k + 1, by omega, by go_num, ?_, hz2.fr hf3 (fun e => by omega), hb2.trans (fr_below hf3 (fun k e => by rw [e]; omega) hb2.size)⟩
        rw [HF.out]
        exact hs3
      case measure => simp only [intOf]; omega
    · obtain rfl : k = n := by omega
      have hs3 : St wr g (t :: ls.flatten) := by rwa [List.take_of_length_le (by rw [HL.out]; exact Nat.le_refl _)] at hs2
      go_upto_region 8 with fail
      refine wp_region_lit ?_
      refine wpList_yield rfl _ (exec_move _ rfl) ?_
      simp only [Act.put, Act.eval, Array.getD_eq_getD_getElem?, List.getElem?_toArray, List.getElem?_cons_succ, List.getElem?_cons_zero, Option.getD_some, List.setIfInBounds_toArray, List.set_cons_zero, List.set_cons_succ]
      refine wpList_plain rfl fun K hK => ?_; go_simp
      with_reducible refine (C3 g wr hs3).out.mono ?_
      rintro e w3 ⟨rfl, hw3⟩
      refine hK _ _ ?_; clear hK
      (try simp only [Act.put, List.setIfInBounds_toArray, List.set_cons_zero, List.set_cons_succ])
      refine wpList_store_at at25w.i rfl (.tmp 4) (.tmp 24) rfl w.heap.size 0 25 (bvs (zb 32)) (bvs res) rfl rfl (hz2.below hw3 hz2.lt) (by rw [bvs_length]; exact HRL.out) (by rw [bvs_length, zb_length]; omega) (bvs_one _) ?_
      intro w4 hb4 hg4 hs4
      (try simp only [Act.put, List.setIfInBounds_toArray, List.set_cons_zero, List.set_cons_succ])
      refine wpList_nil ?_
      go_wp2_with fail
      (try simp only [Exit.inBlock, Exit.then])
      rw [splice_all _ _ (by rw [bvs_length, bvs_length, zb_length]; exact HRL.out.symm)] at hb4
      refine bodyPost_ret (ret_cell rfl at25w _ _ w.heap.size 25 (bvs res) rfl hb4 (by rw [bvs_length]; exact HRL.out)) rfl ?_
      exact ⟨rfl, (hb2.trans (hw3.mono hb2.size)).grown hg4 (by have := hb2.size; have := hw3.size; omega) (by intro k hk; cases hk; omega)⟩
theorem tagof_is (t : UInt8) (z : Int) (hz : (t.toNat : Int) = z) (A : Option Addr) (n c : Nat) (vs : List Value) (ls : List (List UInt8)) (w : World) (hl : ls.length = n) (hr : Rd w A vs) (ha : AllRd w vs ls) (hmx : ∀ (i : Nat) (v : Value), vs[i]? = some v → capOf v ≤ maxLen)
    (hn : n ≤ 1099511627776) (hb : ls.flatten.length + 1 ≤ 140737488355328) :
    Calls Try.prog 88 #[.int .u8 z, .slice A n c] w fun e w' => e = .returned (arr8 (shaL (t :: ls.flatten))) ∧ Below w.heap.size w w' := by
  subst hz
  exact tagof_any t A n c vs ls w hl hr ha hmx hn hb
/-- Two arrays of 32 bytes in blocks, and the slices of them in a row. -/
theorem two_slices (u : World) (k v : List UInt8) (tk tv : TypeId) (g h : Nat) (hk : Blk u g tk (bvs k)) (hv : Blk u h tv (bvs v)) (lk : k.length = 32) (lv : v.length = 32) :
    Rd (u.alloc (.cells #[.slice (some ⟨g, 0, none⟩) 32 32, .slice (some ⟨h, 0, none⟩) 32 32] 24)) (some ⟨u.heap.size, 0, none⟩) [.slice (some ⟨g, 0, none⟩) 32 32, .slice (some ⟨h, 0, none⟩) 32 32] ∧
    AllRd (u.alloc (.cells #[.slice (some ⟨g, 0, none⟩) 32 32, .slice (some ⟨h, 0, none⟩) 32 32] 24)) [.slice (some ⟨g, 0, none⟩) 32 32, .slice (some ⟨h, 0, none⟩) 32 32] [k, v] ∧
    (∀ (i : Nat) (x : Value), [Value.slice (some ⟨g, 0, none⟩) 32 32, .slice (some ⟨h, 0, none⟩) 32 32][i]? = some x → capOf x ≤ maxLen) := by
  refine ⟨Rd.of_blk0 (es := []) (by simpa using Blk.new u 24 [.slice (some ⟨g, 0, none⟩) 32 32, .slice (some ⟨h, 0, none⟩) 32 32]), AllRd.cons ⟨_, 32, by rw [lk], by omega, ?_⟩ (AllRd.cons ⟨_, 32, by rw [lv], by omega, ?_⟩ (AllRd.nil _)), ?_⟩
  · exact (Rd.of_blk0 (es := []) (by simpa using hk)).alloc _
  · exact (Rd.of_blk0 (es := []) (by simpa using hv)).alloc _
  · intro i x hx
    have hm : (32 : Nat) ≤ maxLen := by unfold maxLen; omega
    match i, hx with
    | 0, hx => cases hx; exact hm
    | 1, hx => cases hx; exact hm
    | i + 2, hx => simp at hx
end Go.Proofs.Ytehbahobkgoapaa
namespace Go.Proofs.Ytehbahobkgoapaa
open Go Go.RowKit
set_option linter.unusedSimpArgs false
set_option linter.unusedVariables false
/-- A text that can be read. -/
def Tx (w : World) (A : Option Addr) (n c : Nat) (l : List UInt8) : Prop := Lft (fun _ => False) w A n c l
theorem Tx.below {w w' : World} {A : Option Addr} {n c : Nat} {l : List UInt8} (h : Tx w A n c l) (hb : Below w.heap.size w w') : Tx w' A n c l := ⟨h.len, h.cap, h.max, h.rd.below hb, fun _ _ h => h⟩
theorem Tx.alloc {w : World} {A : Option Addr} {n c : Nat} {l : List UInt8} (h : Tx w A n c l) (o : Obj) : Tx (w.alloc o) A n c l := h.below ((Below.refl _ _).alloc (Nat.le_refl _) o)
theorem sum_tx (A : Option Addr) (n c : Nat) (l : List UInt8) (w : World) (h : Tx w A n c l) (hn : n ≤ 1152921504606846976) : Calls Try.prog 79 #[.slice A n c] w fun e w' => e = .returned (arr8 (shaL l)) ∧ Below w.heap.size w w' :=
  sum_any A n c l w h.rd h.len h.cap h.max hn
end Go.Proofs.Ytehbahobkgoapaa
namespace Go.Proofs.Ytehbahobkgoapaa
open Go Go.RowKit
set_option linter.unusedSimpArgs false
set_option linter.unusedVariables false
def firstH : List UInt8 := shaL [4]
def nextH (h r : List UInt8) : List UInt8 := shaL (5 :: (h ++ r))
def foldH (h : List UInt8) (ls : List (List UInt8)) : List UInt8 := ls.foldl nextH h
theorem firstH_length : firstH.length = 32 := shaL_length _
theorem nextH_length (h r : List UInt8) : (nextH h r).length = 32 := shaL_length _
theorem foldH_length (h : List UInt8) (ls : List (List UInt8)) (hh : h.length = 32) : (foldH h ls).length = 32 := by
  induction ls generalizing h with
  | nil => exact hh
  | cons r ls ih => exact ih _ (nextH_length _ _)
theorem flat32_len (ls : List (List UInt8)) (h : ∀ l ∈ ls, l.length = 32) : ls.flatten.length = 32 * ls.length := by
  induction ls with
  | nil => rfl
  | cons l ls ih =>
    rw [List.flatten_cons, List.length_append, h l (by simp), ih (fun x hx => h x (by simp [hx])), List.length_cons]
    omega
theorem flat32_get (ls : List (List UInt8)) (h : ∀ l ∈ ls, l.length = 32) (i : Nat) (hi : i < ls.length) : (ls.flatten.drop (i * 32)).take 32 = ls.getD i [] := by
  induction ls generalizing i with
  | nil => simp at hi
  | cons l ls ih =>
    have hl := h l (by simp)
    rw [List.flatten_cons]
    cases i with
    | zero => rw [Nat.zero_mul, List.drop_zero, List.take_append_of_le_length (by omega), List.take_of_length_le (by omega)]; rfl
    | succ i =>
      rw [List.drop_append, List.drop_eq_nil_of_le (by omega), List.nil_append, show (i + 1) * 32 - l.length = i * 32 by omega, ih (fun x hx => h x (by simp [hx])) i (by simpa using hi)]
      rfl
/-- A list of digests that can be read. -/
structure Hl (w : World) (A : Option Addr) (n c : Nat) (ls : List (List UInt8)) : Prop where
  len : ls.length = n
  cap : n ≤ c
  max : c ≤ maxLen
  rd : Rd w A (bvs ls.flatten)
  each : ∀ l ∈ ls, l.length = 32
theorem Hl.below {w w' : World} {A : Option Addr} {n c : Nat} {ls : List (List UInt8)} (h : Hl w A n c ls) (hb : Below w.heap.size w w') : Hl w' A n c ls := ⟨h.len, h.cap, h.max, h.rd.below hb, h.each⟩
theorem Hl.at {w : World} {A : Option Addr} {n c : Nat} {ls : List (List UInt8)} (h : Hl w A n c ls) (i : Nat) (hi : i < n) : ∃ ad, A = some ad ∧ Rd w (some (ad.add (i * 32))) (bvs (ls.getD i [])) ∧ (ls.getD i []).length = 32 := by
  have hf := flat32_len ls h.each
  have hl := h.len
  obtain ⟨ad, hA, _⟩ := h.rd.at_ (k := 0) (by rw [bvs_length, hf]; omega)
  have hc := h.rd.cut (i * 32) 32
  have e : ((bvs ls.flatten).drop (i * 32)).take 32 = bvs (ls.getD i []) := by
    unfold bvs
    rw [← List.map_drop, ← List.map_take, flat32_get ls h.each i (by omega)]
  rw [e, hA] at hc
  refine ⟨ad, hA, hc, ?_⟩
  rw [List.getD_eq_getElem?_getD, List.getElem?_eq_getElem (by omega)]
  exact h.each _ (List.getElem_mem (by omega))
theorem exec_siaz {P : Program} {w : World} {a : Act} {o : Oper} {t e : TypeId} {z : Nat} (hu : P.underlying t = some (.slice e)) (hz : (P.info? e).map (·.size) = some z) (x y : Operand) (ho : o.op = .indexAddr t x y) (ad : Addr) (n c i : Nat) (k : IntKind) (hx : a.eval x = .slice (some ad) n c) (hy : a.eval y = .int k (i : Int)) (hi : i < n) :
    (execOp a.eval o).run P w = .ok (.value (.pointer (some (ad.add (i * z))))) w := by
  have he : P.elem t = e := by simp [Program.elem, hu]
  have hs : (sizeOf e).run P w = .ok z w := by
    cases hq : P.info? e with
    | none => simp [hq] at hz
    | some j =>
      simp [hq] at hz
      simp [sizeOf, typeInfo, hq, hz]
  have hr := run_indexAt_slice (P := P) w t ad n c k (i : Int) (by rw [he]; exact hu)
  rw [he, if_pos (by omega), hs] at hr
  simp only [Result.andThen_ok, Int.toNat_natCast] at hr
  unfold execOp
  simp only [ho, hx, hy, Sem.run_bind, hr, Result.andThen_ok, Sem.run_pure]
theorem sz25 : (Try.prog.info? 25).map (·.size) = some 32 := by kernel_rfl
theorem exec_len132 {w : World} {a : Act} {o : Oper} (x : Operand) (ho : o.op = .call { callee := .builtin .len, args := #[x], argTypes := #[132] }) (A : Option Addr) (n c : Nat) (hx : a.eval x = .slice A n c) :
    (execOp a.eval o).run Try.prog w = .ok (.value (.int .i64 (n : Int))) w := by
  unfold execOp
  simp only [ho, resolve, invoke, builtin, Sem.run_bind, Sem.run_pure, Result.andThen_ok, List.map_toArray, List.map_cons, List.map_nil, hx]
  go_simp
set_option maxRecDepth 100000 in
set_option maxHeartbeats 1000000 in
theorem cfirst_any (w : World) : Calls Try.prog 106 #[] w fun e w' => e = .returned (arr8 (shaL [4])) ∧ Below w.heap.size w w' := by
  have hbz : Blk (w.alloc (.cells (bvs (zb 32)).toArray 25)) w.heap.size 25 (bvs (zb 32)) := Blk.new _ _ _
  have hw0 : Below w.heap.size w (w.alloc (.cells (bvs (zb 32)).toArray 25)) := (Below.refl _ _).alloc (Nat.le_refl _) _
  have C := fun u => Lib.hid (tagof_is 4 4 rfl none 0 0 [] [] u rfl (Rd.nil _ _) (AllRd.nil _) (fun i v h => by simp at h) (by omega) (by simp))
  have HRL : Hid ((shaL [4]).length = 32) := Lib.hid (shaL_length _)
  rw [show (4 : UInt8) :: ([] : List (List UInt8)).flatten = [4] from rfl] at C
  generalize shaL [4] = res at *
  unfold arr8 at *
  go_enter Try.func106, Try.ntmps106
  go_upto_region 1 with fail
  refine wp_region_lit ?_
  refine wpList_plain rfl fun K hK => ?_; go_simp
  refine (C _).out.mono ?_
  rintro e w3 ⟨rfl, hw3⟩
  refine hK _ _ ?_; clear hK
  (try simp only [Act.put, List.setIfInBounds_toArray, List.set_cons_zero, List.set_cons_succ])
  refine wpList_store_at at25w.i rfl (.tmp 0) (.tmp 1) rfl w.heap.size 0 25 (bvs (zb 32)) (bvs res) rfl rfl (hbz.below hw3 hbz.lt) (by rw [bvs_length]; exact HRL.out) (by rw [bvs_length, zb_length]; omega) (bvs_one _) ?_
  intro w4 hb4 hg4 hs4
  (try simp only [Act.put, List.setIfInBounds_toArray, List.set_cons_zero, List.set_cons_succ])
  refine wpList_nil ?_
  go_wp2_with fail
  (try simp only [Exit.inBlock, Exit.then])
  rw [splice_all _ _ (by rw [bvs_length, bvs_length, zb_length]; exact HRL.out.symm)] at hb4
  refine bodyPost_ret (ret_cell rfl at25w _ _ w.heap.size 25 (bvs res) rfl hb4 (by rw [bvs_length]; exact HRL.out)) rfl ?_
  exact ⟨rfl, (hw0.trans (hw3.mono hw0.size)).grown hg4 (Nat.le_trans hw0.size hw3.size) (by intro k hk; cases hk; omega)⟩
set_option maxRecDepth 100000 in
set_option maxHeartbeats 2000000 in
theorem cnext_any (k v : List UInt8) (w : World) (lk : k.length = 32) (lv : v.length = 32) :
    Calls Try.prog 108 #[arr8 k, arr8 v] w fun e w' => e = .returned (arr8 (shaL (5 :: (k ++ v)))) ∧ Below w.heap.size w w' := by
  have b1 : Blk (w.alloc (.cells (bvs k).toArray 25)) w.heap.size 25 (bvs k) := Blk.new _ _ _
  have b2 : Blk ((w.alloc (.cells (bvs k).toArray 25)).alloc (.cells (bvs v).toArray 25)) (w.heap.size + 1) 25 (bvs v) := by
    have := Blk.new (w.alloc (.cells (bvs k).toArray 25)) 25 (bvs v)
    rwa [show (w.alloc (.cells (bvs k).toArray 25)).heap.size = w.heap.size + 1 by simp] at this
  have b3 : Blk (((w.alloc (.cells (bvs k).toArray 25)).alloc (.cells (bvs v).toArray 25)).alloc (.cells (bvs (zb 32)).toArray 25)) (w.heap.size + 2) 25 (bvs (zb 32)) := by
    have := Blk.new ((w.alloc (.cells (bvs k).toArray 25)).alloc (.cells (bvs v).toArray 25)) 25 (bvs (zb 32))
    rwa [show ((w.alloc (.cells (bvs k).toArray 25)).alloc (.cells (bvs v).toArray 25)).heap.size = w.heap.size + 2 by simp] at this
  have hall := And.intro ((b1.alloc (.cells (bvs v).toArray 25)).alloc (.cells (bvs (zb 32)).toArray 25)) (And.intro (b2.alloc (.cells (bvs (zb 32)).toArray 25)) (And.intro b3
    ((((Below.refl w.heap.size w).alloc (Nat.le_refl _) (.cells (bvs k).toArray 25)).alloc (by simp) (.cells (bvs v).toArray 25)).alloc (by simp; omega) (.cells (bvs (zb 32)).toArray 25))))
  clear b1 b2 b3
  have C := fun (u : World) (A : Option Addr) (vs : List Value) (hr : Rd u A vs) (ha : AllRd u vs [k, v]) (hm : ∀ (i : Nat) (x : Value), vs[i]? = some x → capOf x ≤ maxLen) => Lib.hid (tagof_is 5 5 rfl A 2 2 vs [k, v] u rfl hr ha hm (by omega) (by simp [lk, lv]))
  have HRL : Hid ((shaL (5 :: (k ++ v))).length = 32) := Lib.hid (shaL_length _)
  rw [show (5 : UInt8) :: [k, v].flatten = 5 :: (k ++ v) by simp] at C
  generalize shaL (5 :: (k ++ v)) = res at *
  unfold arr8 at *
  go_enter Try.func108, Try.ntmps108
  go_upto_region 1 with fail
  generalize hW : World.alloc (World.alloc (World.alloc w _) _) _ = w0
  have h3 : Blk w0 w.heap.size 25 (bvs k) ∧ Blk w0 (w.heap.size + 1) 25 (bvs v) ∧ Blk w0 (w.heap.size + 2) 25 (bvs (zb 32)) ∧ Below w.heap.size w w0 := by rw [← hW]; exact hall
  clear hall hW
  obtain ⟨c1, c2, c3, c4⟩ := h3
  have T := two_slices w0.drew k v 25 25 w.heap.size (w.heap.size + 1) c1.drew c2.drew lk lv
  have T2 := Lib.hid T
  clear T
  refine rg_begin (Any) [4] [2, 3, 4] [0, 1, 2, 3, 4] 0 mixed (by kernel_rfl) (fun _ _ _ _ e hh => ⟨e.symm.trans hh.1, hh.2⟩) ?_
  simp only [pick, List.map_cons, List.map_nil, List.getD_cons_zero, List.getD_cons_succ]
  have hS : (Any) _ := any_at w0.drew
  refine rg_take rfl rfl hS (fun W hW => exec_arr_all ia25 _ rfl w.heap.size 0 rfl) ?_
  simp only [Act.put, List.setIfInBounds_toArray, List.set_cons_zero, List.set_cons_succ]
  refine rg_take rfl rfl hS (fun W hW => exec_arr_all ia25 _ rfl (w.heap.size + 1) 0 rfl) ?_
  simp only [Act.put, List.setIfInBounds_toArray, List.set_cons_zero, List.set_cons_succ]
  refine rg_one rfl rfl ?_; intro K hK; go_simp
  have hS1 := any_at (w0.drew.alloc (.cells #[.slice (some ⟨w.heap.size, 0, none⟩) 32 32, .slice (some ⟨w.heap.size + 1, 0, none⟩) 32 32] 24))
  refine hK _ _ (fun _ => hS1) ?_; clear hK
  refine rg_one rfl rfl ?_; intro K hK; go_simp
  refine (C _ _ _ T2.out.1 T2.out.2.1 T2.out.2.2).out.mono ?_
  rintro e w3 ⟨rfl, hw3⟩
  have hS2 := any_at w3
  refine hK _ _ (fun _ => hS2) ?_; clear hK
  refine rg_one rfl rfl ?_; intro K hK
  refine wp_store_at at25w.i (.tmp 4) (.tmp 8) rfl (w.heap.size + 2) 0 25 (bvs (zb 32)) (bvs res) rfl rfl ((c3.drew.alloc _).below hw3 (c3.drew.alloc _).lt) (by rw [bvs_length]; exact HRL.out) (by rw [bvs_length, zb_length]; omega) (bvs_one _) ?_
  intro w4 hb4 hg4 hs4
  refine hK _ _ (fun h => by cases h) ?_; clear hK
  refine rg_done (by kernel_rfl) ?_
  have c5 : Below w.heap.size w (w0.drew.alloc (.cells #[.slice (some ⟨w.heap.size, 0, none⟩) 32 32, .slice (some ⟨w.heap.size + 1, 0, none⟩) 32 32] 24)) := c4.drew.alloc (by have := c4.size; simpa using this) _
  go_wp2_with fail
  (try simp only [Exit.inBlock, Exit.then])
  rw [splice_all _ _ (by rw [bvs_length, bvs_length, zb_length]; exact HRL.out.symm)] at hb4
  refine bodyPost_ret (ret_cell rfl at25w _ _ (w.heap.size + 2) 25 (bvs res) rfl hb4 (by rw [bvs_length]; exact HRL.out)) rfl ?_
  exact ⟨rfl, (c5.trans (hw3.mono c5.size)).grown hg4 (Nat.le_trans c5.size hw3.size) (by intro k hk; cases hk; omega)⟩
end Go.Proofs.Ytehbahobkgoapaa
namespace Go.Proofs.Ytehbahobkgoapaa
open Go Go.RowKit
set_option linter.unusedSimpArgs false
set_option linter.unusedVariables false
theorem ownsRow_blk {w : World} {base e z n : Nat} {v : Value} {xs : List Value} (h : w.ownsRow base e z v n xs) {g : Nat} (hg : v.ownBlock = some g) : base ≤ g ∧ ∃ cs, Blk w g e cs := by
  obtain ⟨hl, h⟩ := h
  rcases h with ⟨rfl, rfl⟩ | ⟨g', cap, cur, rfl, hg', hh, _⟩
  · simp [Value.ownBlock] at hg
  · simp [Value.ownBlock] at hg; subst hg
    exact ⟨hg', cur.toList, by simpa [Blk] using hh⟩
theorem ownsRow_below {w w' : World} {base e z n : Nat} {v : Value} {xs : List Value} (h : w.ownsRow base e z v n xs) (hb : Below w.heap.size w w') : w'.ownsRow base e z v n xs := by
  obtain ⟨hl, h⟩ := h
  refine ⟨hl, ?_⟩
  rcases h with h | ⟨g, cap, cur, hv, hg, hh, r⟩
  · exact .inl h
  · have hlt : g < w.heap.size := by
      rcases Nat.lt_or_ge g w.heap.size with hlt | hge
      · exact hlt
      · rw [Array.getElem?_eq_none hge] at hh; cases hh
    exact .inr ⟨g, cap, cur, hv, hg, (hb.block g hlt).trans hh, r⟩
theorem _root_.Go.RowKit.Below.then {a b c : World} (h : Below a.heap.size a b) (k : Below b.heap.size b c) : Below a.heap.size a c := h.trans (k.mono h.size)
end Go.Proofs.Ytehbahobkgoapaa
namespace Go.Proofs.Ytehbahobkgoapaa
open Go Go.RowKit
set_option linter.unusedSimpArgs false
set_option linter.unusedVariables false
theorem Tx.rd {w : World} {A : Option Addr} {n c : Nat} {l : List UInt8} (h : Tx w A n c l) : Rd w A (bvs l) := Lft.rd h
theorem Tx.len {w : World} {A : Option Addr} {n c : Nat} {l : List UInt8} (h : Tx w A n c l) : l.length = n := Lft.len h
theorem Tx.cap {w : World} {A : Option Addr} {n c : Nat} {l : List UInt8} (h : Tx w A n c l) : n ≤ c := Lft.cap h
theorem Tx.max {w : World} {A : Option Addr} {n c : Nat} {l : List UInt8} (h : Tx w A n c l) : c ≤ maxLen := Lft.max h
end Go.Proofs.Ytehbahobkgoapaa
namespace Go.Proofs.Ytehbahobkgoapaa
open Go Go.RowKit
set_option linter.unusedSimpArgs false
set_option linter.unusedVariables false
theorem et25 : ET Try.prog 25 (.agg (bvs (zb 32)).toArray) 32 32 := ⟨by kernel_rfl, rfl, by omega⟩
theorem own_hl {w : World} {base n : Nat} {v : Value} {ls : List (List UInt8)} (h : w.ownsRow base 25 32 v n (bvs ls.flatten)) (hl : ls.length = n) (he : ∀ l ∈ ls, l.length = 32) : ∃ A c, v = .slice A n c ∧ Hl w A n c ls := by
  obtain ⟨A, c, rfl, h1, h2, h3⟩ := ownsRow_rd h
  exact ⟨A, c, rfl, hl, h1, h2, h3, he⟩
end Go.Proofs.Ytehbahobkgoapaa
namespace Go.Proofs.Ytehbahobkgoapaa
open Go Go.RowKit
section
variable {P : Program} {ops : Array Oper} {rest : List Oper} {o : Oper} {a : Act} {w : World} {Q : Exit → Act → World → Prop}
theorem wpList_plain_w (hw : Region.wanted o (yielded ops a.tmps) = true) (h : ∀ K : Act → World → Prop, (∀ a w, wpList P ops Q rest a w → K a w) → o.wp P a w K Q) : wpList P ops Q (o :: rest) a w :=
  wpList_step fun K hK => by rw [if_pos hw]; exact h K hK
end
end Go.Proofs.Ytehbahobkgoapaa
namespace Go.Proofs.Ytehbahobkgoapaa
open Go Go.RowKit
set_option linter.unusedSimpArgs false
set_option linter.unusedVariables false
theorem Tx.grown {w w' : World} {A : Option Addr} {n c : Nat} {l : List UInt8} {g : Nat} (h : Tx w A n c l) (hg : w.grownBy w' (some g)) (hne : ∀ ad, A = some ad → ad.block ≠ g) : Tx w' A n c l :=
  ⟨h.len, h.cap, h.max, h.rd.fr ((Fr.refl (· = g) w).grown hg (by intro k hk; cases hk; exact .inl rfl)) (fun ad e q => hne ad e q), fun _ _ h => h⟩
end Go.Proofs.Ytehbahobkgoapaa
namespace Go.Proofs.Ytehbahobkgoapaa
open Go Go.RowKit
set_option linter.unusedSimpArgs false
set_option linter.unusedVariables false
/-- The heads of the first 0, 1, .. roots. -/
def heads (rs : List (List UInt8)) : List (List UInt8) := (List.range (rs.length + 1)).map fun i => foldH firstH (rs.take i)
theorem heads_length (rs : List (List UInt8)) : (heads rs).length = rs.length + 1 := by simp [heads]
theorem heads_get (rs : List (List UInt8)) (i : Nat) (hi : i ≤ rs.length) : (heads rs).getD i [] = foldH firstH (rs.take i) := by
  simp [heads, List.getD, List.getElem?_map, List.getElem?_range (show i < rs.length + 1 by omega)]
theorem heads_snoc (rs : List (List UInt8)) (r : List UInt8) : heads (rs ++ [r]) = heads rs ++ [nextH (foldH firstH rs) r] := by
  unfold heads
  rw [show (rs ++ [r]).length + 1 = (rs.length + 1) + 1 by simp, List.range_succ, List.map_append]
  congr 1
  · apply List.map_congr_left
    intro i hi
    rw [List.take_append_of_le_length (by simp at hi; omega)]
  · simp [List.take_of_length_le, foldH, List.foldl_append]
theorem foldH_len (rs : List (List UInt8)) : (foldH firstH rs).length = 32 := foldH_length firstH rs firstH_length
theorem heads_each (rs : List (List UInt8)) : ∀ l ∈ heads rs, l.length = 32 := by
  intro l hl
  simp only [heads, List.mem_map] at hl
  obtain ⟨i, _, rfl⟩ := hl
  exact foldH_len _
/-- A log in the block G; S: the blocks that are its own. -/
structure LgP (S : Nat → Prop) (w : World) (G : Nat) (rs : List (List UInt8)) (vr vh : Value) : Prop where
  blk : Blk w G 145 [vr, vh]
  r : w.ownsRow 0 25 32 vr rs.length (bvs rs.flatten)
  h : w.ownsRow 0 25 32 vh (rs.length + 1) (bvs (heads rs).flatten)
  rS : ∀ k, vr.ownBlock = some k → S k
  hS : ∀ k, vh.ownBlock = some k → S k
  ap : ∀ k, vr.ownBlock = some k → vh.ownBlock ≠ some k
  gS : S G
  lt : ∀ k, S k → k < w.heap.size
  each : ∀ l ∈ rs, l.length = 32
  few : rs.length ≤ 4096
def Lg (S : Nat → Prop) (w : World) (G : Nat) (rs : List (List UInt8)) : Prop := ∃ vr vh, LgP S w G rs vr vh
theorem ownsRow_fr {S : Nat → Prop} {w w' : World} {base e z n : Nat} {v : Value} {xs : List Value} (h : w.ownsRow base e z v n xs) (hf : Fr S w w') (hv : ∀ k, v.ownBlock = some k → ¬ S k) : w'.ownsRow base e z v n xs := by
  obtain ⟨hl, h⟩ := h
  rcases h with ⟨rfl, rfl⟩ | ⟨g, cap, cur, rfl, hg, hh, hn, hm, hs, ht⟩
  · exact ⟨hl, .inl ⟨rfl, rfl⟩⟩
  · refine ⟨hl, .inr ⟨g, cap, cur, rfl, hg, ?_, hn, hm, hs, ht⟩⟩
    have hlt : g < w.heap.size := by
      rcases Nat.lt_or_ge g w.heap.size with h | h
      · exact h
      · rw [Array.getElem?_eq_none h] at hh; cases hh
    rw [hf.block g hlt (hv g rfl)]; exact hh
theorem Lg.fr {S T : Nat → Prop} {w w' : World} {G : Nat} {rs : List (List UInt8)} (h : Lg S w G rs) (hf : Fr T w w') (hd : ∀ k, S k → ¬ T k) : Lg S w' G rs := by
  obtain ⟨vr, vh, p⟩ := h
  exact ⟨vr, vh, p.blk.fr hf (hd _ p.gS), ownsRow_fr p.r hf (fun k e => hd k (p.rS k e)), ownsRow_fr p.h hf (fun k e => hd k (p.hS k e)), p.rS, p.hS, p.ap, p.gS, fun k hk => Nat.lt_of_lt_of_le (p.lt k hk) hf.size, p.each, p.few⟩
theorem Lg.below {S : Nat → Prop} {w w' : World} {G : Nat} {rs : List (List UInt8)} (h : Lg S w G rs) (hb : Below w.heap.size w w') : Lg S w' G rs :=
  h.fr (T := fun _ => False) (Fr.of_below hb) (fun _ _ f => f)
/-- A log as it is read. -/
structure Lv (w : World) (G : Nat) (rs : List (List UInt8)) (RA : Option Addr) (rc : Nat) (HA : Option Addr) (hc : Nat) : Prop where
  blk : Blk w G 145 [.slice RA rs.length rc, .slice HA (rs.length + 1) hc]
  r : Hl w RA rs.length rc rs
  h : Hl w HA (rs.length + 1) hc (heads rs)
  few : rs.length ≤ 4096
theorem Lg.view {S : Nat → Prop} {w : World} {G : Nat} {rs : List (List UInt8)} (h : Lg S w G rs) : ∃ RA rc HA hc, Lv w G rs RA rc HA hc := by
  obtain ⟨vr, vh, p⟩ := h
  obtain ⟨RA, rc, rfl, h1⟩ := own_hl p.r rfl p.each
  obtain ⟨HA, hc, rfl, h2⟩ := own_hl p.h (heads_length rs) (heads_each rs)
  exact ⟨RA, rc, HA, hc, p.blk, h1, h2, p.few⟩
theorem log_cells {w : World} {g : Nat} {u v : Value} (h : Blk w g 145 [u, v]) : w.cell? ⟨g, 0, none⟩ = some u ∧ w.cell? ⟨g, 1, none⟩ = some v := ⟨by rw [h.cell]; rfl, by rw [h.cell]; rfl⟩
theorem exec_l0 {w : World} {a : Act} {o : Oper} (x : Operand) (ho : o.op = .fieldAddr 145 x 0) (g : Nat) (hx : a.eval x = .pointer (some ⟨g, 0, none⟩)) : (execOp a.eval o).run Try.prog w = .ok (.value (.pointer (some ⟨g, 0, none⟩))) w := by
  unfold execOp
  simp only [ho, hx]
  go_simp
theorem exec_l1 {w : World} {a : Act} {o : Oper} (x : Operand) (ho : o.op = .fieldAddr 145 x 1) (g : Nat) (hx : a.eval x = .pointer (some ⟨g, 0, none⟩)) : (execOp a.eval o).run Try.prog w = .ok (.value (.pointer (some ⟨g, 1, none⟩))) w := by
  unfold execOp
  simp only [ho, hx]
  go_simp
theorem w132 : ∃ d, Try.prog.underlying 132 = some d ∧ d.isRow = false := ⟨_, Try.underlying132, rfl⟩
theorem exec_load132 {w : World} {a : Act} {o : Oper} (x : Operand) (ho : o.op = .load 132 x) (ad : Addr) (v : Value) (hx : a.eval x = .pointer (some ad)) (hc : w.cell? ad = some v) : (execOp a.eval o).run Try.prog w = .ok (.value v) w := by
  obtain ⟨d, hu, hd⟩ := w132
  exact exec_load_one hu hd x ho ad v hx hc
theorem digs_cells (ks : List (List UInt8)) : ((ks.map fun k => Value.agg (bvs k).toArray).flatMap fun v => v.cells.toList) = bvs ks.flatten := by
  induction ks with
  | nil => rfl
  | cons k ks ih =>
    rw [List.map_cons, List.flatMap_cons, ih, List.flatten_cons]
    show (bvs k).toArray.toList ++ _ = _
    simp [bvs]
/-- A list of digests, built of its parts. -/
theorem wp_build_digs {a : Act} {w : World} {o : Oper} {K : Act → World → Prop} {Q : Exit → Act → World → Prop} (ks : List (List UInt8)) (n : Nat) (hn : ks.length = n) (h32 : ∀ k ∈ ks, k.length = 32) (h0 : 0 < n) (hs : n ≤ 100) (parts : Array (Nat × Operand)) (ho : o.op = .buildSlice 132 n parts)
    (he : (parts.map fun (i, x) => (i, a.eval x)).toList = ((ks.map fun k => Value.agg (bvs k).toArray).zipIdx 0).map fun x => (x.2, x.1))
    (h : K (a.put o.dst (.slice (some ⟨w.heap.size, 0, none⟩) n n)) (w.alloc (.cells (bvs ks.flatten).toArray 25))) : o.wp Try.prog a w K Q := by
  obtain ⟨i, hi, hz, hsz, _⟩ := info_parts et25.i
  refine wp_buildSlice 132 25 n parts ho _ i _ Try.underlying132 hi hz (by rw [hsz]; omega) (by rw [hsz]; omega) ?_ h
  rw [he, hsz, Great.fill_whole (by omega) _ _ ?_ ?_, digs_cells]
  · intro v hv
    obtain ⟨k, hk, rfl⟩ := List.mem_map.1 hv
    show (bvs k).toArray.size = 32
    simp [bvs, h32 k hk]
  · simp [hn]
theorem wp_build_dig1 {a : Act} {w : World} {o : Oper} {K : Act → World → Prop} {Q : Exit → Act → World → Prop} (k : List UInt8) (hk : k.length = 32) (x : Operand) (ho : o.op = .buildSlice 132 1 #[(0, x)]) (hx : a.eval x = .agg (bvs k).toArray)
    (h : K (a.put o.dst (.slice (some ⟨w.heap.size, 0, none⟩) 1 1)) (w.alloc (.cells (bvs k).toArray 25))) : o.wp Try.prog a w K Q := by
  refine wp_build_digs [k] 1 rfl (by intro l hl; simp at hl; subst hl; exact hk) (by omega) (by omega) _ ho (by simp [hx]) ?_
  simpa using h
set_option maxRecDepth 100000 in
set_option maxHeartbeats 1000000 in
theorem lnone_nil (w : World) : Calls Try.prog 154 #[.pointer none] w fun e w' => e = .returned (.bool true) ∧ w = w' := by
  go_enter Try.func154, Try.ntmps154
  go_wp2
  go_ret
  exact ⟨rfl, rfl⟩
set_option maxRecDepth 100000 in
set_option maxHeartbeats 1000000 in
theorem lnone_empty (g : Nat) (w : World) (hb : Blk w g 145 [.slice none 0 0, .slice none 0 0]) : Calls Try.prog 154 #[.pointer (some ⟨g, 0, none⟩)] w fun e w' => e = .returned (.bool true) ∧ w = w' := by
  have hc := (log_cells hb).2
  clear hb
  go_enter Try.func154, Try.ntmps154
  go_wp2
  go_ret
  exact ⟨rfl, rfl⟩
set_option maxRecDepth 100000 in
set_option maxHeartbeats 1000000 in
theorem lnone_no {S : Nat → Prop} (g : Nat) (rs : List (List UInt8)) (w : World) (h : Lg S w g rs) : Calls Try.prog 154 #[.pointer (some ⟨g, 0, none⟩)] w fun e w' => e = .returned (.bool false) ∧ w = w' := by
  obtain ⟨RA, rc, HA, hc, v⟩ := h.view
  have hcl := (log_cells v.blk).2
  have hne : (((rs.length + 1 : Nat) : Int) == 0) = false := by simp; omega
  generalize rs.length + 1 = m at *
  clear v h
  go_enter Try.func154, Try.ntmps154
  go_wp2
  go_ret
  exact ⟨rfl, rfl⟩
set_option maxRecDepth 100000 in
set_option maxHeartbeats 1000000 in
theorem new_log (w : World) : Calls Try.prog 148 #[] w fun e w' => ∃ g S, e = .returned (.pointer (some ⟨g, 0, none⟩)) ∧ Lg S w' g [] ∧ (∀ k, S k → w.heap.size ≤ k) ∧ Below w.heap.size w w' := by
  have C := fun u => Lib.hid (cfirst_any u)
  rw [show shaL [4] = firstH from rfl] at C
  have HL := Lib.hid firstH_length
  have hH : Hid (heads [] = [firstH]) := Lib.hid rfl
  generalize firstH = FH at *
  unfold arr8 at C
  go_enter Try.func148, Try.ntmps148
  go_upto_region 1 with fail
  refine wp_region_lit ?_
  refine wpList_plain rfl fun K hK => ?_; go_simp
  with_reducible refine (C _).out.mono ?_
  rintro e w1 ⟨rfl, hw1⟩
  refine hK _ _ ?_; clear hK
  (try simp only [Act.put, List.setIfInBounds_toArray, List.set_cons_zero, List.set_cons_succ])
  refine wpList_plain rfl fun K hK => ?_
  refine wp_build_dig1 FH HL.out _ rfl rfl ?_
  refine hK _ _ ?_; clear hK
  (try simp only [Act.put, List.setIfInBounds_toArray, List.set_cons_zero, List.set_cons_succ])
  refine wpList_yield rfl _ (exec_build _ rfl #[.slice none 0 0, .slice (some ⟨w1.heap.size, 0, none⟩) 1 1] (by kernel_rfl)) ?_
  simp only [Act.put, List.setIfInBounds_toArray, List.set_cons_zero, List.set_cons_succ]
  refine wpList_plain rfl fun K hK => ?_; go_simp
  refine hK _ _ ?_; clear hK
  (try simp only [Act.put, List.setIfInBounds_toArray, List.set_cons_zero, List.set_cons_succ])
  refine wpList_yield rfl _ (exec_assign _ rfl) ?_
  simp only [Act.put, Act.eval, Array.getD_eq_getD_getElem?, List.getElem?_toArray, List.getElem?_cons_succ, List.getElem?_cons_zero, Option.getD_some, List.setIfInBounds_toArray, List.set_cons_zero, List.set_cons_succ]
  refine wpList_nil ?_
  go_wp2_with fail
  go_ret
  have hb : Blk (w1.alloc (.cells (bvs FH).toArray 25)) w1.heap.size 25 (bvs FH) := Blk.new _ _ _
  have hw2 : Below w1.heap.size w1 (w1.alloc (.cells (bvs FH).toArray 25)) := (Below.refl _ _).alloc (Nat.le_refl _) _
  have hsz : (w1.alloc (.cells (bvs FH).toArray 25)).heap.size = w1.heap.size + 1 := by simp
  have hc : Blk ((w1.alloc (.cells (bvs FH).toArray 25)).alloc (.cells #[.slice none 0 0, .slice (some ⟨w1.heap.size, 0, none⟩) 1 1] 145)) (w1.heap.size + 1) 145 [.slice none 0 0, .slice (some ⟨w1.heap.size, 0, none⟩) 1 1] := by rw [← hsz]; exact Blk.new _ _ _
  have hb3 := hb.alloc (.cells #[.slice none 0 0, .slice (some ⟨w1.heap.size, 0, none⟩) 1 1] 145)
  refine ⟨w1.heap.size + 1, fun k => k = w1.heap.size ∨ k = w1.heap.size + 1, rfl, ⟨_, _, hc, ?_, ?_, ?_, ?_, ?_, .inr rfl, ?_, by simp, by simp⟩, ?_, ?_⟩
  · exact World.ownsRow_nil _ _ _ _
  · rw [hH.out]
    simpa using ownsRow_of_blk 0 32 1 hb3 (Nat.zero_le _) (by simp [bvs, HL.out]) (by unfold maxLen; omega)
  · intro k hk; cases hk
  · intro k hk; cases hk; exact .inl rfl
  · intro k hk; cases hk
  · intro k hk; have := hw1.size; simp; omega
  · intro k hk; have := hw1.size; omega
  · exact ((hw1.trans (hw2.mono hw1.size)).alloc (by have := hw1.size; simp; omega) _)
end Go.Proofs.Ytehbahobkgoapaa
namespace Go.Proofs.Ytehbahobkgoapaa
open Go Go.RowKit
set_option linter.unusedSimpArgs false
set_option linter.unusedVariables false
theorem cell_below {w w' : World} {p : Addr} {u : Value} (h : Below w.heap.size w w') (hp : w.cell? p = some u) : w'.cell? p = some u := (h.cell (World.block_lt_of_cell? w p hp)).trans hp
set_option maxRecDepth 100000 in
set_option maxHeartbeats 1000000 in
theorem loglen_any {S : Nat → Prop} (g : Nat) (rs : List (List UInt8)) (w : World) (h : Lg S w g rs) : Calls Try.prog 116 #[.pointer (some ⟨g, 0, none⟩)] w fun e w' => e = .returned (.int .i64 (rs.length : Int)) ∧ w = w' := by
  obtain ⟨RA, rc, HA, hc, v⟩ := h.view
  have hcl := Lib.hid (log_cells v.blk).1
  have C := Lib.hid (lnone_no g rs w h)
  generalize rs.length = n at *
  clear v h
  go_enter Try.func116, Try.ntmps116
  go_upto_region 3 with (first
    | (go_at_call 154; with_reducible refine C.out.mono ?_; rintro e w1 ⟨rfl, rfl⟩))
  refine wp_region_lit ?_
  refine wpList_yield rfl _ (exec_move _ rfl) ?_
  simp only [Act.put, Act.eval, Array.getD_eq_getD_getElem?, List.getElem?_toArray, List.getElem?_cons_succ, List.getElem?_cons_zero, Option.getD_some, List.setIfInBounds_toArray, List.set_cons_zero, List.set_cons_succ]
  refine wpList_yield rfl _ (exec_nilck _ rfl _ rfl) ?_
  simp only [Act.put, List.setIfInBounds_toArray, List.set_cons_zero, List.set_cons_succ]
  refine wpList_yield rfl _ (exec_l0 _ rfl g rfl) ?_
  simp only [Act.put, List.setIfInBounds_toArray, List.set_cons_zero, List.set_cons_succ]
  refine wpList_yield rfl _ (exec_load132 _ rfl _ _ rfl hcl.out) ?_
  simp only [Act.put, List.setIfInBounds_toArray, List.set_cons_zero, List.set_cons_succ]
  refine wpList_yield rfl _ (exec_len132 _ rfl RA n rc rfl) ?_
  simp only [Act.put, List.setIfInBounds_toArray, List.set_cons_zero, List.set_cons_succ]
  refine wpList_yield rfl _ (exec_assign _ rfl) ?_
  simp only [Act.put, Act.eval, Array.getD_eq_getD_getElem?, List.getElem?_toArray, List.getElem?_cons_succ, List.getElem?_cons_zero, Option.getD_some, List.setIfInBounds_toArray, List.set_cons_zero, List.set_cons_succ]
  refine wpList_nil ?_
  go_wp2_with fail
  go_ret
  exact ⟨rfl, rfl⟩
set_option maxRecDepth 100000 in
set_option maxHeartbeats 1000000 in
theorem loghead_any {S : Nat → Prop} (g : Nat) (rs : List (List UInt8)) (w : World) (h : Lg S w g rs) : Calls Try.prog 120 #[.pointer (some ⟨g, 0, none⟩)] w fun e w' => e = .returned (arr8 (foldH firstH rs)) ∧ Below w.heap.size w w' := by
  have hbz : Blk (w.alloc (.cells (bvs (zb 32)).toArray 25)) w.heap.size 25 (bvs (zb 32)) := Blk.new _ _ _
  have hw0 : Below w.heap.size w (w.alloc (.cells (bvs (zb 32)).toArray 25)) := (Below.refl _ _).alloc (Nat.le_refl _) _
  have h0 := h.below hw0
  obtain ⟨RA, rc, HA, hc, v⟩ := h0.view
  have hcl := Lib.hid (log_cells v.blk)
  have C := Lib.hid (lnone_no g rs _ h0)
  obtain ⟨ad, rfl, hrd, h32⟩ := v.h.at rs.length (by omega)
  rw [heads_get rs rs.length (Nat.le_refl _), List.take_length] at hrd h32
  have HRL := Lib.hid h32
  generalize foldH firstH rs = res at *
  generalize rs.length = n at *
  clear v h0 h h32
  unfold arr8
  have hall := And.intro hbz (And.intro hw0 (And.intro hcl (And.intro C hrd)))
  clear hbz hw0 hcl C hrd
  go_enter Try.func120, Try.ntmps120
  go_upto_region 1 with fail
  generalize hW : World.alloc w _ = w0
  have hall : Blk w0 w.heap.size 25 (bvs (zb 32)) ∧ Below w.heap.size w w0 ∧ Hid (w0.cell? ⟨g, 0, none⟩ = some (.slice RA n rc) ∧ w0.cell? ⟨g, 1, none⟩ = some (.slice (some ad) (n + 1) hc)) ∧ Hid (Calls Try.prog 154 #[.pointer (some ⟨g, 0, none⟩)] w0 fun e w' => e = .returned (.bool false) ∧ w0 = w') ∧ Rd w0 (some (ad.add (n * 32))) (bvs res) := by rw [← hW]; exact hall
  clear hW
  obtain ⟨hbz, hw0, hcl, C, hrd⟩ := hall
  go_upto_region 3 with (first
    | (go_at_call 154; with_reducible refine C.out.mono ?_; rintro e w1 ⟨rfl, rfl⟩))
  clear C
  refine rg_begin (Below w0.heap.size w0) [11] [11] [0, 1, 2, 3, 4, 5, 6, 7, 8, 9, 10, 11] 0 mixed (by kernel_rfl) (fun _ _ _ _ e hh => ⟨e.symm.trans hh.1, hh.2⟩) ?_
  simp only [pick, List.map_cons, List.map_nil, List.getD_cons_zero, List.getD_cons_succ]
  have hS : (Below w0.heap.size w0) _ := (Below.refl _ _).drew
  refine rg_take (v := ?v1_0) rfl rfl hS ?y1_0 ?_
  case y1_0 => intro W hW; (try subst hW); go_simp; try with_reducible rfl
  simp only [Act.put, List.setIfInBounds_toArray, List.set_cons_zero, List.set_cons_succ]
  refine rg_take rfl rfl hS (fun W hW => exec_nilck _ rfl _ rfl) ?_
  simp only [Act.put, List.setIfInBounds_toArray, List.set_cons_zero, List.set_cons_succ]
  refine rg_take rfl rfl hS (fun W hW => exec_l1 _ rfl g rfl) ?_
  simp only [Act.put, List.setIfInBounds_toArray, List.set_cons_zero, List.set_cons_succ]
  refine rg_take rfl rfl hS (fun W hW => exec_load132 _ rfl _ _ rfl (cell_below hW hcl.out.2)) ?_
  simp only [Act.put, List.setIfInBounds_toArray, List.set_cons_zero, List.set_cons_succ]
  refine rg_take (v := ?v1_4) rfl rfl hS ?y1_4 ?_
  case y1_4 => intro W hW; (try subst hW); go_simp; try with_reducible rfl
  simp only [Act.put, List.setIfInBounds_toArray, List.set_cons_zero, List.set_cons_succ]
  refine rg_take rfl rfl hS (fun W hW => exec_nilck _ rfl _ rfl) ?_
  simp only [Act.put, List.setIfInBounds_toArray, List.set_cons_zero, List.set_cons_succ]
  refine rg_take rfl rfl hS (fun W hW => exec_l0 _ rfl g rfl) ?_
  simp only [Act.put, List.setIfInBounds_toArray, List.set_cons_zero, List.set_cons_succ]
  refine rg_take rfl rfl hS (fun W hW => exec_load132 _ rfl _ _ rfl (cell_below hW hcl.out.1)) ?_
  simp only [Act.put, List.setIfInBounds_toArray, List.set_cons_zero, List.set_cons_succ]
  refine rg_take rfl rfl hS (fun W hW => exec_len132 _ rfl RA n rc rfl) ?_
  simp only [Act.put, List.setIfInBounds_toArray, List.set_cons_zero, List.set_cons_succ]
  refine rg_take rfl rfl hS (fun W hW => exec_siaz Try.underlying132 sz25 _ _ rfl ad (n + 1) hc n _ rfl rfl (by omega)) ?_
  simp only [Act.put, List.setIfInBounds_toArray, List.set_cons_zero, List.set_cons_succ]
  refine rg_take rfl rfl hS (fun W hW => exec_load_rd at25w _ rfl _ (bvs res) rfl (hrd.below hW) (by omega) (by rw [bvs_length]; exact HRL.out)) ?_
  simp only [Act.put, List.setIfInBounds_toArray, List.set_cons_zero, List.set_cons_succ]
  refine rg_one rfl rfl ?_; intro K hK
  refine wp_store_at at25w.i (.tmp 2) (.tmp 16) rfl w.heap.size 0 25 (bvs (zb 32)) (bvs res) rfl rfl hbz.drew (by rw [bvs_length]; exact HRL.out) (by rw [bvs_length, zb_length]; omega) (bvs_one _) ?_
  intro w4 hb4 hg4 hs4
  refine hK _ _ (fun h => by cases h) ?_; clear hK
  refine rg_done (by kernel_rfl) ?_
  go_wp2_with fail
  (try simp only [Exit.inBlock, Exit.then])
  rw [splice_all _ _ (by rw [bvs_length, bvs_length, zb_length]; exact HRL.out.symm)] at hb4
  refine bodyPost_ret (ret_cell rfl at25w _ _ w.heap.size 25 (bvs res) rfl hb4 (by rw [bvs_length]; exact HRL.out)) rfl ?_
  exact ⟨rfl, (hw0.drew).grown hg4 hw0.size (by intro k hk; cases hk; omega)⟩
end Go.Proofs.Ytehbahobkgoapaa
namespace Go.Proofs.Ytehbahobkgoapaa
open Go Go.RowKit
set_option linter.unusedSimpArgs false
set_option linter.unusedVariables false
theorem one132 : (Try.prog.info? 132).map (·.size) = some 1 := by kernel_rfl
theorem row_ne {S : Nat → Prop} {w w' : World} {g n base e z : Nat} {v : Value} {xs cs : List Value} (h : w.ownsRow base e z v n xs) (hb : Blk w g 145 cs) (he : e ≠ 145) : ∀ k, v.ownBlock = some k → k ≠ g := by
  intro k hk
  obtain ⟨_, ds, hd⟩ := ownsRow_blk h hk
  exact hd.ne hb he
/-- append(s, k): a digest behind a list of the log's own. -/
theorem wp_append_dig {w : World} {o : Oper} {a : Act} {K : Act → World → Prop} {Q : Exit → Act → World → Prop} (s x : Operand) (ho : o.op = .call { callee := .builtin .append, args := #[s, x], argTypes := #[132, 132] })
    (v : Value) (n : Nat) (ls : List (List UInt8)) (hs : a.eval s = v) (hown : w.ownsRow 0 25 32 v n (bvs ls.flatten)) (ad : Addr) (hx : a.eval x = .slice (some ad) 1 1) (k : List UInt8) (hk : k.length = 32) (hr : Rd w (some ad) (bvs k)) (hn : n ≤ 5000) (H : Nat) (hH : w.heap.size = H)
    (h : ∀ g cap w', w'.ownsRow 0 25 32 (.slice (some ⟨g, 0, none⟩) (n + 1) cap) (n + 1) (bvs (ls ++ [k]).flatten) → w.grownBy w' v.ownBlock → (v.ownBlock = some g ∨ g = H) → g < w'.heap.size → K (a.put o.dst (.slice (some ⟨g, 0, none⟩) (n + 1) cap)) w') : o.wp Try.prog a w K Q := by
  obtain ⟨i, hi, hz, hsz, hb⟩ := info_parts et25.i
  obtain ⟨ad', e, hc⟩ := hr (by rw [bvs_length]; omega)
  cases e
  refine wp_append_lies w s x 132 ho 0 25 i _ 32 32 Try.underlying132 hi hz hsz hb et25.c (by omega) v n (bvs ls.flatten) hs hown ad 1 1 (bvs k) hx (by rw [bvs_length, hk]) hc (bvs_one _) (by omega) (by unfold maxLen; omega) (by omega) (Nat.zero_le _) H hH ?_
  intro g cap w' h1 h2 h3 h4
  exact h g cap w' (by simpa [bvs] using h1) h2 h3 h4
/-- Half of it: the heads are written. -/
theorem add_half {S : Nat → Prop} {w w1 w2 : World} {g gh ch : Nat} {rs : List (List UInt8)} {vr vh : Value} {x : List UInt8} (p : LgP S w g rs vr vh) (hb1 : Below w.heap.size w w1) (hg : w1.grownBy w2 vh.ownBlock)
    (ho : w2.ownsRow 0 25 32 (.slice (some ⟨gh, 0, none⟩) (rs.length + 1 + 1) ch) (rs.length + 1 + 1) (bvs (heads rs ++ [x]).flatten)) (hat : vh.ownBlock = some gh ∨ gh = w1.heap.size) (hlt : gh < w2.heap.size) :
    Blk w2 g 145 [vr, vh] ∧ Blk (w2.setCell ⟨g, 1, none⟩ (.slice (some ⟨gh, 0, none⟩) (rs.length + 1 + 1) ch)) g 145 [vr, .slice (some ⟨gh, 0, none⟩) (rs.length + 1 + 1) ch] ∧ (w2.setCell ⟨g, 1, none⟩ (.slice (some ⟨gh, 0, none⟩) (rs.length + 1 + 1) ch)).ownsRow 0 25 32 vr rs.length (bvs rs.flatten) ∧
    (w2.setCell ⟨g, 1, none⟩ (.slice (some ⟨gh, 0, none⟩) (rs.length + 1 + 1) ch)).ownsRow 0 25 32 (.slice (some ⟨gh, 0, none⟩) (rs.length + 1 + 1) ch) (rs.length + 1 + 1) (bvs (heads rs ++ [x]).flatten) ∧ Fr S w (w2.setCell ⟨g, 1, none⟩ (.slice (some ⟨gh, 0, none⟩) (rs.length + 1 + 1) ch)) := by
  have hS := hb1.size
  have p1 := p.blk.below hb1 p.blk.lt
  have r1 := ownsRow_below p.r hb1
  have h1 := ownsRow_below p.h hb1
  have hneh : ∀ k, vh.ownBlock = some k → k ≠ g := row_ne (S := S) (w' := w) p.h p.blk (by decide)
  have hner : ∀ k, vr.ownBlock = some k → k ≠ g := row_ne (S := S) (w' := w) p.r p.blk (by decide)
  have p2 : Blk w2 g 145 [vr, vh] := p1.grown hg (fun e => hneh g e.symm rfl)
  have r2 : w2.ownsRow 0 25 32 vr rs.length (bvs rs.flatten) := r1.kept hg (by
    cases hv : vr.ownBlock with
    | none => exact .inl rfl
    | some k => exact .inr (fun e => p.ap k hv e.symm))
  have hgh : gh ≠ g := by
    obtain ⟨_, ds, hd⟩ := ownsRow_blk (g := gh) ho rfl
    exact hd.ne p2 (by decide)
  have hset : Fr (· = g) w2 (w2.setCell ⟨g, 1, none⟩ (.slice (some ⟨gh, 0, none⟩) (rs.length + 1 + 1) ch)) := Fr.setCell (p := ⟨g, 1, none⟩) (Fr.refl (· = g) w2) (.inl rfl) _
  refine ⟨p2, by simpa using p2.set_ 1 (.slice (some ⟨gh, 0, none⟩) (rs.length + 1 + 1) ch), ownsRow_fr r2 hset (fun k e => hner k e), ownsRow_fr ho hset (fun k e => by cases e; exact hgh), ?_⟩
  refine Fr.setCell (p := ⟨g, 1, none⟩) ?_ (.inl p.gS) _
  exact (Fr.of_below hb1).grown hg (fun k e => .inl (p.hS k e))
theorem add_done {S : Nat → Prop} {w w1 w3 w4 w5 : World} {g gh ch gr cr : Nat} {rs : List (List UInt8)} {vr vh : Value} {r : List UInt8} (p : LgP S w g rs vr vh) (lr : r.length = 32) (hf : rs.length < 4096)
    (hat : vh.ownBlock = some gh ∨ gh = w1.heap.size) (hlt : gh < w3.heap.size) (hs1 : w.heap.size ≤ w1.heap.size) (hb3 : Blk w3 g 145 [vr, .slice (some ⟨gh, 0, none⟩) (rs.length + 1 + 1) ch])
    (hr3 : w3.ownsRow 0 25 32 vr rs.length (bvs rs.flatten)) (hh3 : w3.ownsRow 0 25 32 (.slice (some ⟨gh, 0, none⟩) (rs.length + 1 + 1) ch) (rs.length + 1 + 1) (bvs (heads rs ++ [nextH (foldH firstH rs) r]).flatten)) (f3 : Fr S w w3)
    (hb34 : Below w3.heap.size w3 w4) (hg : w4.grownBy w5 vr.ownBlock) (ho : w5.ownsRow 0 25 32 (.slice (some ⟨gr, 0, none⟩) (rs.length + 1) cr) (rs.length + 1) (bvs (rs ++ [r]).flatten)) (hat2 : vr.ownBlock = some gr ∨ gr = w4.heap.size) (hlt2 : gr < w5.heap.size) :
    Blk w5 g 145 [vr, .slice (some ⟨gh, 0, none⟩) (rs.length + 1 + 1) ch] ∧
    Lg (fun k => S k ∨ (w.heap.size ≤ k ∧ k < (w5.setCell ⟨g, 0, none⟩ (.slice (some ⟨gr, 0, none⟩) (rs.length + 1) cr)).heap.size)) (w5.setCell ⟨g, 0, none⟩ (.slice (some ⟨gr, 0, none⟩) (rs.length + 1) cr)) g (rs ++ [r]) ∧ Fr S w (w5.setCell ⟨g, 0, none⟩ (.slice (some ⟨gr, 0, none⟩) (rs.length + 1) cr)) := by
  have hner : ∀ k, vr.ownBlock = some k → k ≠ g := row_ne (S := S) (w' := w) p.r p.blk (by decide)
  have hs3 := f3.size
  have hs4 := hb34.size
  have hs5 := hg.size
  have hghS : S gh ∨ w.heap.size ≤ gh := by
    rcases hat with e | e
    · exact .inl (p.hS _ e)
    · exact .inr (by omega)
  have hgrS : S gr ∨ w.heap.size ≤ gr := by
    rcases hat2 with e | e
    · exact .inl (p.rS _ e)
    · exact .inr (by omega)
  have hne : gr ≠ gh := by
    rcases hat2 with e | e
    · rcases hat with e' | e'
      · intro h; exact p.ap gr e (by rw [h]; exact e')
      · have := p.lt _ (p.rS _ e); omega
    · omega
  have p4 := hb3.below hb34 hb3.lt
  have h4 := ownsRow_below hh3 hb34
  have p5 : Blk w5 g 145 [vr, .slice (some ⟨gh, 0, none⟩) (rs.length + 1 + 1) ch] := p4.grown hg (fun e => hner g e.symm rfl)
  have hvne : (Value.slice (some ⟨gh, 0, none⟩) (rs.length + 1 + 1) ch).ownBlock ≠ vr.ownBlock := by
    intro e
    have e' : vr.ownBlock = some gh := e.symm
    rcases hat with e2 | e2
    · exact p.ap gh e' e2
    · have := p.lt _ (p.rS _ e'); omega
  have h5 := h4.kept hg (.inr hvne)
  have hgr : gr ≠ g := by
    obtain ⟨_, ds, hd⟩ := ownsRow_blk (g := gr) ho rfl
    exact hd.ne p5 (by decide)
  have hgh : gh ≠ g := by
    obtain ⟨_, ds, hd⟩ := ownsRow_blk (g := gh) hh3 rfl
    exact hd.ne hb3 (by decide)
  have hset : Fr (· = g) w5 (w5.setCell ⟨g, 0, none⟩ (.slice (some ⟨gr, 0, none⟩) (rs.length + 1) cr)) := Fr.setCell (p := ⟨g, 0, none⟩) (Fr.refl (· = g) w5) (.inl rfl) _
  have hsz : (w5.setCell ⟨g, 0, none⟩ (.slice (some ⟨gr, 0, none⟩) (rs.length + 1) cr)).heap.size = w5.heap.size := by simp [World.setCell]
  have hfr : Fr S w (w5.setCell ⟨g, 0, none⟩ (.slice (some ⟨gr, 0, none⟩) (rs.length + 1) cr)) := Fr.setCell (p := ⟨g, 0, none⟩) ((f3.below hb34).grown hg (fun k e => .inl (p.rS k e))) (.inl p.gS) _
  refine ⟨p5, ⟨_, _, by simpa using p5.set_ 0 (.slice (some ⟨gr, 0, none⟩) (rs.length + 1) cr), ?_, ?_, ?_, ?_, ?_, .inl p.gS, ?_, ?_, ?_⟩, hfr⟩
  · simpa using ownsRow_fr ho hset (fun k e => by cases e; exact hgr)
  · rw [heads_snoc]
    simpa using ownsRow_fr h5 hset (fun k e => by cases e; exact hgh)
  · intro k hk; cases hk
    rcases hgrS with h | h
    · exact .inl h
    · exact .inr ⟨h, by rw [hsz]; exact hlt2⟩
  · intro k hk; cases hk
    rcases hghS with h | h
    · exact .inl h
    · exact .inr ⟨h, by rw [hsz]; show gh < _; omega⟩
  · intro k hk; cases hk; intro e; injection e with e; exact hne e.symm
  · intro k hk
    rcases hk with hk | hk
    · have := p.lt k hk; rw [hsz]; omega
    · exact hk.2
  · intro l hl
    rcases List.mem_append.1 hl with h | h
    · exact p.each l h
    · simp at h; subst h; exact lr
  · simp; omega
set_option maxRecDepth 100000 in
set_option maxHeartbeats 1000000 in
theorem add_any {S : Nat → Prop} (g : Nat) (rs : List (List UInt8)) (r : List UInt8) (w : World) (h : Lg S w g rs) (lr : r.length = 32) (hf : rs.length < 4096) :
    Calls Try.prog 122 #[.pointer (some ⟨g, 0, none⟩), arr8 r] w fun e w' => ∃ S', e = .returned (.tuple #[.int .i64 ((rs.length + 1 : Nat) : Int), .int .i64 0]) ∧ Lg S' w' g (rs ++ [r]) ∧ (∀ k, S' k → S k ∨ w.heap.size ≤ k) ∧ Fr S w w' := by
  obtain ⟨vr, vh, p⟩ := h
  have hbr : Blk (w.alloc (.cells (bvs r).toArray 25)) w.heap.size 25 (bvs r) := Blk.new _ _ _
  have hw0 : Below w.heap.size w (w.alloc (.cells (bvs r).toArray 25)) := (Below.refl _ _).alloc (Nat.le_refl _) _
  have h0 : Lg S (w.alloc (.cells (bvs r).toArray 25)) g rs := Lg.below ⟨vr, vh, p⟩ hw0
  have C := Lib.hid (lnone_no g rs _ h0)
  have p0 := p.blk.below hw0 p.blk.lt
  have hh0 := ownsRow_below p.h hw0
  have hr0 := ownsRow_below p.r hw0
  obtain ⟨HA, hc, rfl, hl⟩ := own_hl hh0 (heads_length rs) (heads_each rs)
  obtain ⟨RA, rc, rfl, hl2⟩ := own_hl hr0 rfl p.each
  obtain ⟨ad, rfl, hrd, h32⟩ := hl.at rs.length (by omega)
  rw [heads_get rs rs.length (Nat.le_refl _), List.take_length] at hrd h32
  have CN := fun u => Lib.hid (cnext_any (foldH firstH rs) r u h32 lr)
  have LR := Lib.hid lr
  have HX : Hid (shaL (5 :: (foldH firstH rs ++ r)) = nextH (foldH firstH rs) r) := Lib.hid rfl
  have HXL : Hid ((nextH (foldH firstH rs) r).length = 32) := Lib.hid (nextH_length _ _)
  have HFL := Lib.hid h32
  have P := Lib.hid p
  rw [HX.out] at CN
  have HALF := fun (x : List UInt8) (w1 w2 : World) (gh ch : Nat) (a1 : Below w.heap.size w w1) a2 a3 a4 a5 => add_half (x := x) (w1 := w1) (w2 := w2) (gh := gh) (ch := ch) p a1 a2 a3 a4 a5
  have DONE := fun (w1 w3 w4 w5 : World) (gh ch gr cr : Nat) a1 a2 a3 a4 a5 a6 a7 a8 a9 a10 a11 a12 => add_done (w1 := w1) (w3 := w3) (w4 := w4) (w5 := w5) (gh := gh) (ch := ch) (gr := gr) (cr := cr) p lr hf a1 a2 a3 a4 a5 a6 a7 a8 a9 a10 a11 a12
  have NEG : ∀ {k : Nat}, (Value.slice (some ad) (rs.length + 1) hc).ownBlock = some k → k ≠ g := fun {k} => row_ne (S := S) (w' := w) p.h p.blk (by decide) k
  have NEZ : (Value.slice (some ad) (rs.length + 1) hc).ownBlock ≠ some w.heap.size := fun e => by have := p.lt _ (p.hS _ e); omega
  have NRG : ∀ {k : Nat}, (Value.slice RA rs.length rc).ownBlock = some k → k ≠ g := fun {k} => row_ne (S := S) (w' := w) p.r p.blk (by decide) k
  have NRZ : (Value.slice RA rs.length rc).ownBlock ≠ some w.heap.size := fun e => by have := p.lt _ (p.rS _ e); omega
  generalize nextH (foldH firstH rs) r = x at *
  generalize foldH firstH rs = fo at *
  generalize hnd : rs.length = n at *
  have hge : ¬ (4096 : Int) ≤ (n : Int) := by omega
  unfold arr8 at *
  have hall := And.intro hbr (And.intro hw0 (And.intro p0 (And.intro C (And.intro hrd hh0))))
  clear hbr hw0 h0 C p0 hh0 hr0 hl hl2 hrd h32
  go_enter Try.func122, Try.ntmps122
  go_upto_region 1 with fail
  generalize hW : World.alloc w _ = w0
  have hall : Blk w0 w.heap.size 25 (bvs r) ∧ Below w.heap.size w w0 ∧ Blk w0 g 145 [.slice RA n rc, .slice (some ad) (n + 1) hc] ∧ Hid (Calls Try.prog 154 #[.pointer (some ⟨g, 0, none⟩)] w0 fun e w' => e = .returned (.bool false) ∧ w0 = w') ∧ Rd w0 (some (ad.add (n * 32))) (bvs fo) ∧ w0.ownsRow 0 25 32 (.slice (some ad) (n + 1) hc) (n + 1) (bvs (heads rs).flatten) := by rw [← hW]; exact hall
  clear hW
  obtain ⟨hbr, hw0, p0, C, hrd, hh0⟩ := hall
  have hcl := Lib.hid (log_cells p0)
  go_upto_region 3 with (first
    | (go_at_call 154; with_reducible refine C.out.mono ?_; rintro e w1 ⟨rfl, rfl⟩))
  refine wp_region_lit ?_
  refine wpList_yield rfl _ (exec_move _ rfl) ?_
  simp only [Act.put, Act.eval, Array.getD_eq_getD_getElem?, List.getElem?_toArray, List.getElem?_cons_succ, List.getElem?_cons_zero, Option.getD_some, List.setIfInBounds_toArray, List.set_cons_zero, List.set_cons_succ]
  refine wpList_yield rfl _ (exec_nilck _ rfl _ rfl) ?_
  simp only [Act.put, List.setIfInBounds_toArray, List.set_cons_zero, List.set_cons_succ]
  refine wpList_yield rfl _ (exec_l0 _ rfl g rfl) ?_
  simp only [Act.put, List.setIfInBounds_toArray, List.set_cons_zero, List.set_cons_succ]
  refine wpList_yield rfl _ (exec_load132 _ rfl _ _ rfl hcl.out.1) ?_
  simp only [Act.put, List.setIfInBounds_toArray, List.set_cons_zero, List.set_cons_succ]
  refine wpList_yield rfl _ (exec_len132 _ rfl RA n rc rfl) ?_
  simp only [Act.put, List.setIfInBounds_toArray, List.set_cons_zero, List.set_cons_succ]
  refine wpList_yield rfl ?vp1_5 ?yp1_5 ?_
  case yp1_5 => go_simp; try with_reducible rfl
  simp only [Act.put, List.setIfInBounds_toArray, List.set_cons_zero, List.set_cons_succ]
  refine wpList_nil ?_
  go_upto_region 5 with fail
  clear C hcl
  generalize hgz : w.heap.size = gz at *
  refine rg_begin (fun W => Blk W g 145 [.slice RA n rc, .slice (some ad) (n + 1) hc] ∧ Blk W gz 25 (bvs r)) [22] [15, 17, 18, 19, 20, 21, 22] [0, 1, 2, 3, 4, 5, 6, 7, 8, 9, 10, 11, 12, 13, 14, 16, 15, 17, 18, 19, 20, 21, 22] 0 mixed (by kernel_rfl) (fun _ _ _ _ e hh => ⟨e.symm.trans hh.1, hh.2⟩) ?_
  simp only [pick, List.map_cons, List.map_nil, List.getD_cons_zero, List.getD_cons_succ]
  have hS : (fun W => Blk W g 145 [.slice RA n rc, .slice (some ad) (n + 1) hc] ∧ Blk W gz 25 (bvs r)) _ := ⟨p0.drew, hbr.drew⟩
  refine rg_take (v := ?v2_0) rfl rfl hS ?y2_0 ?_
  case y2_0 => intro W hW; (try subst hW); go_simp; try with_reducible rfl
  simp only [Act.put, List.setIfInBounds_toArray, List.set_cons_zero, List.set_cons_succ]
  refine rg_take (v := ?v2_1) rfl rfl hS ?y2_1 ?_
  case y2_1 => intro W hW; (try subst hW); go_simp; try with_reducible rfl
  simp only [Act.put, List.setIfInBounds_toArray, List.set_cons_zero, List.set_cons_succ]
  refine rg_take rfl rfl hS (fun W hW => exec_nilck _ rfl _ rfl) ?_
  simp only [Act.put, List.setIfInBounds_toArray, List.set_cons_zero, List.set_cons_succ]
  refine rg_take rfl rfl hS (fun W hW => exec_l1 _ rfl g rfl) ?_
  simp only [Act.put, List.setIfInBounds_toArray, List.set_cons_zero, List.set_cons_succ]
  refine rg_take rfl rfl hS (fun W hW => exec_load132 _ rfl _ _ rfl (log_cells hW.1).2) ?_
  simp only [Act.put, List.setIfInBounds_toArray, List.set_cons_zero, List.set_cons_succ]
  refine rg_take (v := ?v2_5) rfl rfl hS ?y2_5 ?_
  case y2_5 => intro W hW; (try subst hW); go_simp; try with_reducible rfl
  simp only [Act.put, List.setIfInBounds_toArray, List.set_cons_zero, List.set_cons_succ]
  refine rg_take rfl rfl hS (fun W hW => exec_nilck _ rfl _ rfl) ?_
  simp only [Act.put, List.setIfInBounds_toArray, List.set_cons_zero, List.set_cons_succ]
  refine rg_take rfl rfl hS (fun W hW => exec_l1 _ rfl g rfl) ?_
  simp only [Act.put, List.setIfInBounds_toArray, List.set_cons_zero, List.set_cons_succ]
  refine rg_take rfl rfl hS (fun W hW => exec_load132 _ rfl _ _ rfl (log_cells hW.1).2) ?_
  simp only [Act.put, List.setIfInBounds_toArray, List.set_cons_zero, List.set_cons_succ]
  refine rg_take (v := ?v2_9) rfl rfl hS ?y2_9 ?_
  case y2_9 => intro W hW; (try subst hW); go_simp; try with_reducible rfl
  simp only [Act.put, List.setIfInBounds_toArray, List.set_cons_zero, List.set_cons_succ]
  refine rg_take rfl rfl hS (fun W hW => exec_nilck _ rfl _ rfl) ?_
  simp only [Act.put, List.setIfInBounds_toArray, List.set_cons_zero, List.set_cons_succ]
  refine rg_take rfl rfl hS (fun W hW => exec_l0 _ rfl g rfl) ?_
  simp only [Act.put, List.setIfInBounds_toArray, List.set_cons_zero, List.set_cons_succ]
  refine rg_take rfl rfl hS (fun W hW => exec_load132 _ rfl _ _ rfl (log_cells hW.1).1) ?_
  simp only [Act.put, List.setIfInBounds_toArray, List.set_cons_zero, List.set_cons_succ]
  refine rg_take rfl rfl hS (fun W hW => exec_len132 _ rfl RA n rc rfl) ?_
  simp only [Act.put, List.setIfInBounds_toArray, List.set_cons_zero, List.set_cons_succ]
  refine rg_take rfl rfl hS (fun W hW => exec_siaz Try.underlying132 sz25 _ _ rfl ad (n + 1) hc n _ rfl rfl (by omega)) ?_
  simp only [Act.put, List.setIfInBounds_toArray, List.set_cons_zero, List.set_cons_succ]
  refine rg_take rfl rfl hS (fun W hW => exec_load_agg at25w (.tmp 3) rfl gz 25 (bvs r) rfl hW.2 (by rw [bvs_length]; exact LR.out)) ?_
  simp only [Act.put, List.setIfInBounds_toArray, List.set_cons_zero, List.set_cons_succ]
  refine rg_one rfl rfl ?_; intro K hK
  refine wp_pure (exec_load_rd at25w _ rfl _ (bvs fo) rfl hrd.drew (by omega) (by rw [bvs_length]; exact HFL.out)) ?_
  refine hK _ _ (fun _ => hS) ?_; clear hK
  simp only [Act.put, List.setIfInBounds_toArray, List.set_cons_zero, List.set_cons_succ]
  refine rg_one rfl rfl ?_; intro K hK; go_simp
  with_reducible refine (CN _).out.mono ?_
  rintro e w2 ⟨rfl, hw2⟩
  have hS1 := And.intro (hS.1.below hw2 hS.1.lt) (hS.2.below hw2 hS.2.lt)
  refine hK _ _ (fun _ => hS1) ?_; clear hK
  refine rg_one rfl rfl ?_; intro K hK
  refine wp_build_dig1 x HXL.out _ rfl rfl ?_
  have hS2 := And.intro (hS1.1.alloc (.cells (bvs x).toArray 25)) (hS1.2.alloc (.cells (bvs x).toArray 25))
  have hx2 : Blk (w2.alloc (.cells (bvs x).toArray 25)) w2.heap.size 25 (bvs x) := Blk.new _ _ _
  have hB1 : Below w0.heap.size w0 (w2.alloc (.cells (bvs x).toArray 25)) := ((Below.refl w0.heap.size w0).drew.trans hw2).alloc hw2.size _
  refine hK _ _ (fun _ => hS2) ?_; clear hK
  generalize World.alloc w2 _ = w3 at *
  generalize w2.heap.size = gy at *
  refine rg_one rfl rfl ?_; intro K hK
  refine wp_append_dig (.tmp 18) (.tmp 32) rfl (.slice (some ad) (n + 1) hc) (n + 1) (heads rs) rfl (ownsRow_below hh0 hB1) ⟨gy, 0, none⟩ rfl x HXL.out (Rd.of_blk0 (es := []) (by simpa using hx2)) (by omega) w3.heap.size rfl ?_
  intro gh ch w4 ho4 hg4 hat4 hlt4
  have hS3 := And.intro (hS2.1.grown hg4 (fun e => NEG (by rw [← e]) rfl)) (hS2.2.grown hg4 (fun e => NEZ (by rw [← e])))
  refine hK _ _ (fun _ => hS3) ?_; clear hK
  refine rg_one rfl rfl ?_; intro K hK
  refine wp_pure (exec_nilck _ rfl _ rfl) ?_
  refine hK _ _ (fun _ => hS3) ?_; clear hK
  simp only [Act.put, List.setIfInBounds_toArray, List.set_cons_zero, List.set_cons_succ]
  refine rg_one rfl rfl ?_; intro K hK
  refine wp_pure (exec_l1 _ rfl g rfl) ?_
  refine hK _ _ (fun _ => hS3) ?_; clear hK
  simp only [Act.put, List.setIfInBounds_toArray, List.set_cons_zero, List.set_cons_succ]
  refine rg_one rfl rfl ?_; intro K hK
  refine wp_store_one one132 _ _ rfl g 1 145 _ (.slice (some ⟨gh, 0, none⟩) (n + 1 + 1) ch) rfl rfl rfl hS3.1 (by simp) ?_
  refine hK _ _ (fun h => by cases h) ?_; clear hK
  refine rg_done (by kernel_rfl) ?_
  have hs03 := hB1.size
  have hgw : gz ≤ w0.heap.size := by rw [← hgz]; exact hw0.size
  have HB1 : Hid (Below gz w w3) := Lib.hid (hw0.trans (hB1.mono hgw))
  have hs3 := hg4.size
  have hgne : gz ≠ g := by have := p.blk.lt; omega
  have HF := Lib.hid (HALF x w3 w4 gh ch HB1.out hg4 ho4 hat4 hlt4)
  clear HALF hS hS1 hx2 p0 hh0 hrd hbr CN HX HXL HFL hall
  have hz4 := hS3.2.far (p := ⟨g, 1, none⟩) hgne (.slice (some ⟨gh, 0, none⟩) (n + 1 + 1) ch)
  have p5 := HF.out.2.1
  have hsw5 : (World.setCell w4 ⟨g, 1, none⟩ (.slice (some ⟨gh, 0, none⟩) (n + 1 + 1) ch)).heap.size = w4.heap.size := by simp [World.setCell]
  generalize hW5 : World.setCell w4 _ _ = w5 at *
  have hlt5 : Hid (gh < w5.heap.size) := Lib.hid (by rw [hsw5]; exact hlt4)
  clear hsw5 hW5
  go_upto_region 6 with fail
  refine rg_begin (fun W => Blk W g 145 [.slice RA n rc, .slice (some ⟨gh, 0, none⟩) (n + 1 + 1) ch] ∧ Blk W gz 25 (bvs r)) [10] [6, 7, 8, 9, 10] [0, 1, 2, 3, 4, 5, 6, 7, 8, 9, 10] 0 mixed (by kernel_rfl) (fun _ _ _ _ e hh => ⟨e.symm.trans hh.1, hh.2⟩) ?_
  simp only [pick, List.map_cons, List.map_nil, List.getD_cons_zero, List.getD_cons_succ]
  have hS6 : (fun W => Blk W g 145 [.slice RA n rc, .slice (some ⟨gh, 0, none⟩) (n + 1 + 1) ch] ∧ Blk W gz 25 (bvs r)) _ := ⟨p5.drew, hz4.drew⟩
  refine rg_take (v := ?v3_0) rfl rfl hS6 ?y3_0 ?_
  case y3_0 => intro W hW; (try subst hW); go_simp; try with_reducible rfl
  simp only [Act.put, List.setIfInBounds_toArray, List.set_cons_zero, List.set_cons_succ]
  refine rg_take (v := ?v3_1) rfl rfl hS6 ?y3_1 ?_
  case y3_1 => intro W hW; (try subst hW); go_simp; try with_reducible rfl
  simp only [Act.put, List.setIfInBounds_toArray, List.set_cons_zero, List.set_cons_succ]
  refine rg_take rfl rfl hS6 (fun W hW => exec_nilck _ rfl _ rfl) ?_
  simp only [Act.put, List.setIfInBounds_toArray, List.set_cons_zero, List.set_cons_succ]
  refine rg_take rfl rfl hS6 (fun W hW => exec_l0 _ rfl g rfl) ?_
  simp only [Act.put, List.setIfInBounds_toArray, List.set_cons_zero, List.set_cons_succ]
  refine rg_take rfl rfl hS6 (fun W hW => exec_load132 _ rfl _ _ rfl (log_cells hW.1).1) ?_
  simp only [Act.put, List.setIfInBounds_toArray, List.set_cons_zero, List.set_cons_succ]
  refine rg_take rfl rfl hS6 (fun W hW => exec_load_agg at25w (.tmp 3) rfl gz 25 (bvs r) rfl hW.2 (by rw [bvs_length]; exact LR.out)) ?_
  simp only [Act.put, List.setIfInBounds_toArray, List.set_cons_zero, List.set_cons_succ]
  refine rg_one rfl rfl ?_; intro K hK
  refine wp_build_dig1 r LR.out _ rfl rfl ?_
  have hS7 := And.intro (hS6.1.alloc (.cells (bvs r).toArray 25)) (hS6.2.alloc (.cells (bvs r).toArray 25))
  have hx7 : Blk (w5.drew.alloc (.cells (bvs r).toArray 25)) w5.drew.heap.size 25 (bvs r) := Blk.new _ _ _
  have hB7 : Below w5.heap.size w5 (w5.drew.alloc (.cells (bvs r).toArray 25)) := (Below.refl w5.heap.size w5).drew.alloc (Nat.le_refl _) _
  refine hK _ _ (fun _ => hS7) ?_; clear hK
  generalize World.alloc w5.drew _ = w7 at *
  generalize w5.drew.heap.size = gy2 at *
  refine rg_one rfl rfl ?_; intro K hK
  refine wp_append_dig (.tmp 40) (.tmp 42) rfl (.slice RA n rc) n rs rfl (ownsRow_below HF.out.2.2.1 hB7) ⟨gy2, 0, none⟩ rfl r LR.out (Rd.of_blk0 (es := []) (by simpa using hx7)) (by omega) w7.heap.size rfl ?_
  intro gr cr w8 ho8 hg8 hat8 hlt8
  have hS8 := And.intro (hS7.1.grown hg8 (fun e => NRG (by rw [← e]) rfl)) (hS7.2.grown hg8 (fun e => NRZ (by rw [← e])))
  refine hK _ _ (fun _ => hS8) ?_; clear hK
  refine rg_one rfl rfl ?_; intro K hK
  refine wp_pure (exec_nilck _ rfl _ rfl) ?_
  refine hK _ _ (fun _ => hS8) ?_; clear hK
  simp only [Act.put, List.setIfInBounds_toArray, List.set_cons_zero, List.set_cons_succ]
  refine rg_one rfl rfl ?_; intro K hK
  refine wp_pure (exec_l0 _ rfl g rfl) ?_
  refine hK _ _ (fun _ => hS8) ?_; clear hK
  simp only [Act.put, List.setIfInBounds_toArray, List.set_cons_zero, List.set_cons_succ]
  refine rg_one rfl rfl ?_; intro K hK
  refine wp_store_one one132 _ _ rfl g 0 145 _ (.slice (some ⟨gr, 0, none⟩) (n + 1) cr) rfl rfl rfl hS8.1 (by simp) ?_
  refine hK _ _ (fun h => by cases h) ?_; clear hK
  refine rg_done (by kernel_rfl) ?_
  have D := DONE w3 w5 w7 w8 gh ch gr cr hat4 hlt5.out (by have := hB1.size; omega) p5 HF.out.2.2.1 HF.out.2.2.2.1 HF.out.2.2.2.2 hB7 hg8 ho8 hat8 hlt8
  have h9 := Lib.hid D.2
  have hb9 := hS8.1.set_ 0 (.slice (some ⟨gr, 0, none⟩) (n + 1) cr)
  clear DONE D hS6 hS7 hS8 hx7 hB7 hz4 p5 HF hg8 ho8 hat8 hlt8
  generalize World.setCell w8 _ _ = w9 at *
  have hcl := Lib.hid (log_cells hb9).1
  go_upto_region 7 with fail
  refine wp_region_lit ?_
  refine wpList_yield rfl _ (exec_move _ rfl) ?_
  simp only [Act.put, Act.eval, Array.getD_eq_getD_getElem?, List.getElem?_toArray, List.getElem?_cons_succ, List.getElem?_cons_zero, Option.getD_some, List.setIfInBounds_toArray, List.set_cons_zero, List.set_cons_succ]
  refine wpList_yield rfl _ (exec_nilck _ rfl _ rfl) ?_
  simp only [Act.put, List.setIfInBounds_toArray, List.set_cons_zero, List.set_cons_succ]
  refine wpList_yield rfl _ (exec_l0 _ rfl g rfl) ?_
  simp only [Act.put, List.setIfInBounds_toArray, List.set_cons_zero, List.set_cons_succ]
  refine wpList_yield rfl _ (exec_load132 _ rfl _ _ rfl hcl.out) ?_
  simp only [Act.put, List.setIfInBounds_toArray, List.set_cons_zero, List.set_cons_succ]
  refine wpList_yield rfl _ (exec_len132 _ rfl (some ⟨gr, 0, none⟩) (n + 1) cr rfl) ?_
  simp only [Act.put, List.setIfInBounds_toArray, List.set_cons_zero, List.set_cons_succ]
  refine wpList_yield rfl _ (exec_assign _ rfl) ?_
  simp only [Act.put, Act.eval, Array.getD_eq_getD_getElem?, List.getElem?_toArray, List.getElem?_cons_succ, List.getElem?_cons_zero, Option.getD_some, List.setIfInBounds_toArray, List.set_cons_zero, List.set_cons_succ]
  refine wpList_yield rfl _ (exec_assign _ rfl) ?_
  simp only [Act.put, Act.eval, Array.getD_eq_getD_getElem?, List.getElem?_toArray, List.getElem?_cons_succ, List.getElem?_cons_zero, Option.getD_some, List.setIfInBounds_toArray, List.set_cons_zero, List.set_cons_succ]
  refine wpList_nil ?_
  go_wp2_with fail
  go_ret2
  exact ⟨_, rfl, h9.out.1, fun k hk => hk.elim .inl (fun h => .inr (by rw [hgz]; exact h.1)), h9.out.2⟩
end Go.Proofs.Ytehbahobkgoapaa
namespace Go.Proofs.Ytehbahobkgoapaa
open Go Go.RowKit
set_option linter.unusedSimpArgs false
set_option linter.unusedVariables false
set_option linter.unusedSectionVars false
/-- pv is no state, in every world that meets N. -/
def NoSt (N : World → Prop) (pv : Value) : Prop := ∀ u, N u → Calls Try.prog 142 #[pv] u fun e w' => e = .returned (.bool true) ∧ u = w'
section
variable {N : World → Prop} {pv : Value} (C : NoSt N pv) (w : World) (hN : N w)
include C hN
end
theorem marked_rd (u : World) (l : List UInt8) (m k : Nat) (cs : Array Value) (hc : cs = (bvs l).toArray) : Rd (u.alloc (.cells cs 5 (m, k))) (some ⟨u.heap.size, 0, none⟩) (bvs l) := by
  subst hc
  intro _
  refine ⟨_, rfl, ?_⟩
  intro i v hv
  rw [add_none, Nat.zero_add]
  have h : (u.alloc (.cells (bvs l).toArray 5 (m, k))).heap[u.heap.size]? = some (.cells (bvs l).toArray 5 (m, k)) := by
    show (u.heap.push _)[u.heap.size]? = _
    simp
  unfold World.cell?
  simp only [h]
  simpa using hv
end Go.Proofs.Ytehbahobkgoapaa
namespace Go.Proofs.Ytehbahobkgoapaa
open Go Go.RowKit
set_option linter.unusedSimpArgs false
set_option linter.unusedVariables false
theorem next_is (k v : List UInt8) (w : World) (lk : k.length = 32) (lv : v.length = 32) : Calls Try.prog 108 #[arr8 k, arr8 v] w fun e w' => e = .returned (arr8 (nextH k v)) ∧ Below w.heap.size w w' := cnext_any k v w lk lv
theorem first_is (w : World) : Calls Try.prog 106 #[] w fun e w' => e = .returned (arr8 firstH) ∧ Below w.heap.size w w' := cfirst_any w
theorem add_is {S : Nat → Prop} (g : Nat) (rs : List (List UInt8)) (r : List UInt8) (w : World) (h : Lg S w g rs) (lr : r.length = 32) (hf : rs.length < 4096) (z : Int) (hz : z = ((rs.length + 1 : Nat) : Int)) :
    Calls Try.prog 122 #[.pointer (some ⟨g, 0, none⟩), arr8 r] w fun e w' => ∃ S', e = .returned (.tuple #[.int .i64 z, .int .i64 0]) ∧ Lg S' w' g (rs ++ [r]) ∧ (∀ k, S' k → S k ∨ w.heap.size ≤ k) ∧ Fr S w w' := by
  subst hz; exact add_any g rs r w h lr hf
theorem loglen_is {S : Nat → Prop} (g : Nat) (rs : List (List UInt8)) (w : World) (h : Lg S w g rs) (z : Int) (hz : z = (rs.length : Int)) : Calls Try.prog 116 #[.pointer (some ⟨g, 0, none⟩)] w fun e w' => e = .returned (.int .i64 z) ∧ w = w' := by
  subst hz; exact loglen_any g rs w h
theorem loghead_is {S : Nat → Prop} (g : Nat) (rs : List (List UInt8)) (w : World) (h : Lg S w g rs) (d : List UInt8) (hd : foldH firstH rs = d) : Calls Try.prog 120 #[.pointer (some ⟨g, 0, none⟩)] w fun e w' => e = .returned (arr8 d) ∧ Below w.heap.size w w' := by
  subst hd; exact loghead_any g rs w h
theorem below_fr {B : Nat} {S : Nat → Prop} {w a b : World} (h : Below B w a) (f : Fr S a b) (hB : B ≤ a.heap.size) (hS : ∀ k, S k → B ≤ k) : Below B w b :=
  ⟨f.os.trans h.os, f.tape.trans h.tape, f.output.trans h.output, Nat.le_trans h.size f.size, fun k hk => (f.block k (by omega) (fun s => by have := hS k s; omega)).trans (h.block k hk)⟩
set_option maxRecDepth 100000 in
set_option maxHeartbeats 4000000 in
theorem awake_any (w : World) : Calls Try.prog 113 #[] w fun e w' => e = .returned (.bool true) ∧ Below w.heap.size w w' := by
  have kc := fun (w : World) (C : Array Value) (n c : Nat) => Lib.run_convert_bytes_const (P := Try.prog) w 24 5 C n c Try.underlying24 Try.underlying5
  have TA : ∀ u : World, Hid (Tx (u.alloc (.cells #[.int .u8 97] 5 (1, 2))) (some ⟨u.heap.size, 0, none⟩) 1 1 [97]) := fun u => Lib.hid
    ⟨rfl, Nat.le_refl _, by unfold maxLen; omega, marked_rd u [97] 1 2 _ rfl, fun _ _ h => h⟩
  have TB : ∀ u : World, Hid (Tx (u.alloc (.cells #[.int .u8 98] 5 (1, 2))) (some ⟨u.heap.size, 0, none⟩) 1 1 [98]) := fun u => Lib.hid
    ⟨rfl, Nat.le_refl _, by unfold maxLen; omega, marked_rd u [98] 1 2 _ rfl, fun _ _ h => h⟩
  have SA := fun (G : Nat) (u : World) (h : Tx u (some ⟨G, 0, none⟩) 1 1 [97]) => Lib.hid (sum_tx (some ⟨G, 0, none⟩) 1 1 [97] u h (by omega))
  have SB := fun (G : Nat) (u : World) (h : Tx u (some ⟨G, 0, none⟩) 1 1 [98]) => Lib.hid (sum_tx (some ⟨G, 0, none⟩) 1 1 [98] u h (by omega))
  have LA := Lib.hid (shaL_length [97])
  have LB := Lib.hid (shaL_length [98])
  generalize shaL [97] = dA at *
  generalize shaL [98] = dB at *
  have NW := fun u => Lib.hid (new_log u)
  have FI := fun u => Lib.hid (first_is u)
  have HFI := Lib.hid firstH_length
  have H0 := fun (S : Nat → Prop) (g : Nat) (u : World) (h : Lg S u g []) => Lib.hid (loghead_is g [] u h firstH rfl)
  have L0 := fun (S : Nat → Prop) (g : Nat) (u : World) (h : Lg S u g []) => Lib.hid (loglen_is g [] u h 0 rfl)
  have A1 := fun (S : Nat → Prop) (g : Nat) (u : World) (h : Lg S u g []) => Lib.hid (add_is g [] dA u h LA.out (by decide) 1 rfl)
  have A2 := fun (S : Nat → Prop) (g : Nat) (u : World) (h : Lg S u g [dA]) => Lib.hid (add_is g [dA] dB u h LB.out (by simp) 2 rfl)
  have N1 := fun (u : World) => Lib.hid (next_is firstH dA u HFI.out LA.out)
  have HN1 : Hid ((nextH firstH dA).length = 32) := Lib.hid (nextH_length _ _)
  have N2 := fun (u : World) => Lib.hid (next_is (nextH firstH dA) dB u HN1.out LB.out)
  have HN2 : Hid ((nextH (nextH firstH dA) dB).length = 32) := Lib.hid (nextH_length _ _)
  have H2 := fun (S : Nat → Prop) (g : Nat) (u : World) (h : Lg S u g [dA, dB]) => Lib.hid (loghead_is g [dA, dB] u h (nextH (nextH firstH dA) dB) rfl)
  generalize nextH (nextH firstH dA) dB = h2 at *
  generalize nextH firstH dA = h1 at *
  generalize firstH = FH at *
  have z25 : ∀ u : World, Hid (Blk (u.alloc (.cells (bvs (zb 32)).toArray 25)) u.heap.size 25 (bvs (zb 32))) := fun u => Lib.hid (Blk.new _ _ _)
  unfold arr8 at *
  have z25b : ∀ u : World, Hid (Blk ((u.alloc (.cells (bvs (zb 32)).toArray 25)).alloc (.cells (bvs (zb 32)).toArray 25)) (u.heap.size + 1) 25 (bvs (zb 32))) := fun u => Lib.hid (by
    have := Blk.new (u.alloc (.cells (bvs (zb 32)).toArray 25)) 25 (bvs (zb 32))
    rwa [show (u.alloc (.cells (bvs (zb 32)).toArray 25)).heap.size = u.heap.size + 1 by simp] at this)
  go_enter Try.func113, Try.ntmps113
  go_upto_region 2 with (first
    | (go_at_call 79; refine (SA _ _ (TA _).out).out.mono ?_; rintro e w1 ⟨rfl, hw1⟩)
    | (go_at_call 79; refine (SB _ _ (TB _).out).out.mono ?_; rintro e w2 ⟨rfl, hw2⟩)
    | ((with_reducible refine at_op (Op.store 25 (.tmp 1) (.tmp 10)) ?_); refine wpList_store_at at25w.i rfl (.tmp 1) (.tmp 10) rfl w2.heap.size 0 25 (bvs (zb 32)) (bvs dA) rfl rfl ((z25 w2).out.alloc _) (by rw [bvs_length]; exact LA.out) (by rw [bvs_length, zb_length]; omega) (bvs_one _) ?_; intro w3 hb3 hg3 hs3)
    | ((with_reducible refine at_op (Op.store 25 (.tmp 2) (.tmp 13)) ?_); refine wpList_store_at at25w.i rfl (.tmp 2) (.tmp 13) rfl (w2.heap.size + 1) 0 25 (bvs (zb 32)) (bvs dB) rfl rfl ((z25b w2).out.grown hg3 (by simp)) (by rw [bvs_length]; exact LB.out) (by rw [bvs_length, zb_length]; omega) (bvs_one _) ?_; intro w4 hb4 hg4 hs4))
  rw [splice_all _ _ (by rw [bvs_length, bvs_length, zb_length, LA.out])] at hb3
  rw [splice_all _ _ (by rw [bvs_length, bvs_length, zb_length, LB.out])] at hb4
  have hBa : Below w.heap.size w (w.alloc (.cells #[.int .u8 97] 5 (1, 2))) := (Below.refl _ _).alloc (Nat.le_refl _) _
  have hB1 := bthen hBa hw1 hBa.size
  have hBb := hB1.alloc hB1.size (.cells #[.int .u8 98] 5 (1, 2))
  have hB2 := bthen hBb hw2 hBb.size
  have hB3 : Below w.heap.size w w3 := ((hB2.alloc hB2.size _).alloc (by have := hB2.size; simp; omega) _).grown hg3 (by have := hB2.size; simp; omega) (by intro k hk; cases hk; exact hB2.size)
  have hB4 : Below w.heap.size w w4 := hB3.grown hg4 hB3.size (by intro k hk; cases hk; have := hB2.size; omega)
  have pa := hb3.grown hg4 (by simp)
  clear hBa hB1 hBb hB3 hw1 hw2 hb3 hg3 hs3 hg4 hs4 kc TA TB SA SB z25 z25b
  have hsz := hB2.size
  clear hB2
  generalize w2.heap.size = ga at *
  go_upto_region 3 with (first
    | (go_at_call 148; with_reducible refine (NW _).out.mono ?_; rintro e w5 ⟨g, S, rfl, hl5, hS5, hw5⟩))
  have qa := pa.below hw5 pa.lt
  have qb := hb4.below hw5 hb4.lt
  have hB5 := bthen hB4 hw5 hB4.size
  have hna : ¬ S ga := fun h => by have := hS5 _ h; have := pa.lt; omega
  have hnb : ¬ S (ga + 1) := fun h => by have := hS5 _ h; have := hb4.lt; omega
  have hnw : ∀ k, S k → w.heap.size ≤ k := fun k h => by have := hS5 _ h; have := hB4.size; omega
  clear hw5 pa hb4 hB4 hS5
  refine wp_region_lit ?_
  refine wpList_yield rfl _ (exec_move _ rfl) ?_
  simp only [Act.put, Act.eval, Array.getD_eq_getD_getElem?, List.getElem?_toArray, List.getElem?_cons_succ, List.getElem?_cons_zero, Option.getD_some, List.setIfInBounds_toArray, List.set_cons_zero, List.set_cons_succ]
  refine wpList_yield rfl ?vp1_1 ?yp1_1 ?_
  case yp1_1 => go_simp; try with_reducible rfl
  simp only [Act.put, List.setIfInBounds_toArray, List.set_cons_zero, List.set_cons_succ]
  refine wpList_yield rfl _ (exec_move _ rfl) ?_
  simp only [Act.put, Act.eval, Array.getD_eq_getD_getElem?, List.getElem?_toArray, List.getElem?_cons_succ, List.getElem?_cons_zero, Option.getD_some, List.setIfInBounds_toArray, List.set_cons_zero, List.set_cons_succ]
  refine wpList_yield_w rfl _ (exec_move _ rfl) ?_
  simp only [Act.put, Act.eval, Array.getD_eq_getD_getElem?, List.getElem?_toArray, List.getElem?_cons_succ, List.getElem?_cons_zero, Option.getD_some, List.setIfInBounds_toArray, List.set_cons_zero, List.set_cons_succ]
  refine wpList_plain_w rfl fun K hK => ?_; go_simp
  with_reducible refine (H0 S g w5 hl5).out.mono ?_
  rintro e w6 ⟨rfl, hw6⟩
  refine hK _ _ ?_; clear hK
  (try simp only [Act.put, List.setIfInBounds_toArray, List.set_cons_zero, List.set_cons_succ])
  refine wpList_plain_w rfl fun K hK => ?_; go_simp
  with_reducible refine (FI w6).out.mono ?_
  rintro e w7 ⟨rfl, hw7⟩
  refine hK _ _ ?_; clear hK
  (try simp only [Act.put, List.setIfInBounds_toArray, List.set_cons_zero, List.set_cons_succ])
  refine wpList_yield_w rfl _ (exec_neq_same ab25 _ _ rfl FH rfl rfl HFI.out) ?_
  simp only [Act.put, List.setIfInBounds_toArray, List.set_cons_zero, List.set_cons_succ]
  refine wpList_yield rfl ?vp2_7 ?yp2_7 ?_
  case yp2_7 => go_simp; try with_reducible rfl
  simp only [Act.put, List.setIfInBounds_toArray, List.set_cons_zero, List.set_cons_succ]
  refine wpList_yield rfl _ (exec_move _ rfl) ?_
  simp only [Act.put, Act.eval, Array.getD_eq_getD_getElem?, List.getElem?_toArray, List.getElem?_cons_succ, List.getElem?_cons_zero, Option.getD_some, List.setIfInBounds_toArray, List.set_cons_zero, List.set_cons_succ]
  refine wpList_yield_w rfl _ (exec_move _ rfl) ?_
  simp only [Act.put, Act.eval, Array.getD_eq_getD_getElem?, List.getElem?_toArray, List.getElem?_cons_succ, List.getElem?_cons_zero, Option.getD_some, List.setIfInBounds_toArray, List.set_cons_zero, List.set_cons_succ]
  refine wpList_plain_w rfl fun K hK => ?_; go_simp
  with_reducible refine (L0 S g w7 ((hl5.below hw6).below hw7)).out.mono ?_
  rintro e _ ⟨rfl, rfl⟩
  refine hK _ _ ?_; clear hK
  (try simp only [Act.put, List.setIfInBounds_toArray, List.set_cons_zero, List.set_cons_succ])
  refine wpList_yield_w rfl ?vp3_11 ?yp3_11 ?_
  case yp3_11 => go_simp; try with_reducible rfl
  simp only [Act.put, List.setIfInBounds_toArray, List.set_cons_zero, List.set_cons_succ]
  refine wpList_yield rfl ?vp4_12 ?yp4_12 ?_
  case yp4_12 => go_simp; try with_reducible rfl
  simp only [Act.put, List.setIfInBounds_toArray, List.set_cons_zero, List.set_cons_succ]
  refine wpList_nil ?_
  have hl7 := (hl5.below hw6).below hw7
  have ra := (qa.below hw6 qa.lt).below hw7 (qa.below hw6 qa.lt).lt
  have rb := (qb.below hw6 qb.lt).below hw7 (qb.below hw6 qb.lt).lt
  have hB7 := bthen (bthen hB5 hw6 hB5.size) hw7 (bthen hB5 hw6 hB5.size).size
  clear hl5 qa qb hB5 hw6 hw7
  go_upto_region 5 with fail
  refine wp_region_lit ?_
  refine wpList_yield rfl _ (exec_move _ rfl) ?_
  simp only [Act.put, Act.eval, Array.getD_eq_getD_getElem?, List.getElem?_toArray, List.getElem?_cons_succ, List.getElem?_cons_zero, Option.getD_some, List.setIfInBounds_toArray, List.set_cons_zero, List.set_cons_succ]
  refine wpList_yield rfl _ (exec_load_agg at25w (.tmp 1) rfl ga 25 (bvs dA) rfl ra (by rw [bvs_length]; exact LA.out)) ?_
  simp only [Act.put, List.setIfInBounds_toArray, List.set_cons_zero, List.set_cons_succ]
  refine wpList_plain rfl fun K hK => ?_; go_simp
  with_reducible refine (A1 S g w7 hl7).out.mono ?_
  rintro e w8 ⟨S2, rfl, hl8, hS8, hf8⟩
  refine hK _ _ ?_; clear hK
  (try simp only [Act.put, List.setIfInBounds_toArray, List.set_cons_zero, List.set_cons_succ])
  refine wpList_yield rfl _ (exec_move _ rfl) ?_
  simp only [Act.put, Act.eval, Array.getD_eq_getD_getElem?, List.getElem?_toArray, List.getElem?_cons_succ, List.getElem?_cons_zero, Option.getD_some, List.setIfInBounds_toArray, List.set_cons_zero, List.set_cons_succ]
  refine wpList_yield rfl ?vp5_4 ?yp5_4 ?_
  case yp5_4 => go_simp; try with_reducible rfl
  simp only [Act.put, List.setIfInBounds_toArray, List.set_cons_zero, List.set_cons_succ]
  refine wpList_yield rfl ?vp6_5 ?yp6_5 ?_
  case yp6_5 => go_simp; try with_reducible rfl
  simp only [Act.put, List.setIfInBounds_toArray, List.set_cons_zero, List.set_cons_succ]
  refine wpList_yield rfl _ (exec_assign _ rfl) ?_
  simp only [Act.put, Act.eval, Array.getD_eq_getD_getElem?, List.getElem?_toArray, List.getElem?_cons_succ, List.getElem?_cons_zero, Option.getD_some, List.setIfInBounds_toArray, List.set_cons_zero, List.set_cons_succ]
  refine wpList_yield rfl _ (exec_assign _ rfl) ?_
  simp only [Act.put, Act.eval, Array.getD_eq_getD_getElem?, List.getElem?_toArray, List.getElem?_cons_succ, List.getElem?_cons_zero, Option.getD_some, List.setIfInBounds_toArray, List.set_cons_zero, List.set_cons_succ]
  refine wpList_nil ?_
  have ra8 := ra.fr hf8 hna
  have rb8 := rb.fr hf8 hnb
  have hB8 := below_fr hB7 hf8 hB7.size hnw
  have hna2 : ¬ S2 ga := fun h => (hS8 _ h).elim hna (fun h2 => by have := ra.lt; omega)
  have hnb2 : ¬ S2 (ga + 1) := fun h => (hS8 _ h).elim hnb (fun h2 => by have := rb.lt; omega)
  have hnw2 : ∀ k, S2 k → w.heap.size ≤ k := fun k h => (hS8 _ h).elim (hnw k) (fun h2 => by have := hB7.size; omega)
  rw [List.nil_append] at hl8
  clear ra rb hB7 hS8 hf8 hna hnb hnw hl7
  go_upto_region 6 with fail
  refine wp_region_lit ?_
  refine wpList_yield rfl _ (exec_move _ rfl) ?_
  simp only [Act.put, Act.eval, Array.getD_eq_getD_getElem?, List.getElem?_toArray, List.getElem?_cons_succ, List.getElem?_cons_zero, Option.getD_some, List.setIfInBounds_toArray, List.set_cons_zero, List.set_cons_succ]
  refine wpList_yield rfl _ (exec_load_agg at25w (.tmp 2) rfl (ga + 1) 25 (bvs dB) rfl rb8 (by rw [bvs_length]; exact LB.out)) ?_
  simp only [Act.put, List.setIfInBounds_toArray, List.set_cons_zero, List.set_cons_succ]
  refine wpList_plain rfl fun K hK => ?_; go_simp
  with_reducible refine (A2 S2 g w8 hl8).out.mono ?_
  rintro e w9 ⟨S3, rfl, hl9, hS9, hf9⟩
  refine hK _ _ ?_; clear hK
  (try simp only [Act.put, List.setIfInBounds_toArray, List.set_cons_zero, List.set_cons_succ])
  refine wpList_yield rfl _ (exec_move _ rfl) ?_
  simp only [Act.put, Act.eval, Array.getD_eq_getD_getElem?, List.getElem?_toArray, List.getElem?_cons_succ, List.getElem?_cons_zero, Option.getD_some, List.setIfInBounds_toArray, List.set_cons_zero, List.set_cons_succ]
  refine wpList_yield rfl ?vp7_4 ?yp7_4 ?_
  case yp7_4 => go_simp; try with_reducible rfl
  simp only [Act.put, List.setIfInBounds_toArray, List.set_cons_zero, List.set_cons_succ]
  refine wpList_yield rfl ?vp8_5 ?yp8_5 ?_
  case yp8_5 => go_simp; try with_reducible rfl
  simp only [Act.put, List.setIfInBounds_toArray, List.set_cons_zero, List.set_cons_succ]
  refine wpList_yield rfl _ (exec_assign _ rfl) ?_
  simp only [Act.put, Act.eval, Array.getD_eq_getD_getElem?, List.getElem?_toArray, List.getElem?_cons_succ, List.getElem?_cons_zero, Option.getD_some, List.setIfInBounds_toArray, List.set_cons_zero, List.set_cons_succ]
  refine wpList_yield rfl _ (exec_assign _ rfl) ?_
  simp only [Act.put, Act.eval, Array.getD_eq_getD_getElem?, List.getElem?_toArray, List.getElem?_cons_succ, List.getElem?_cons_zero, Option.getD_some, List.setIfInBounds_toArray, List.set_cons_zero, List.set_cons_succ]
  refine wpList_nil ?_
  have ra9 := ra8.fr hf9 hna2
  have rb9 := rb8.fr hf9 hnb2
  have hB9 := below_fr hB8 hf9 hB8.size hnw2
  have hl9 : Lg S3 w9 g [dA, dB] := hl9
  clear ra8 rb8 hB8 hS9 hf9 hna2 hnb2 hnw2 hl8
  go_upto_region 7 with fail
  refine rg_begin (Below w9.heap.size w9) [] [16, 17, 19, 21] [0, 1, 2, 3, 4, 5, 6, 7, 8, 9, 10, 11, 12, 13, 14, 15, 18, 20, 16, 17, 19, 21, 22, 23, 24] 0 mixed (by kernel_rfl) (fun _ _ _ _ e hh => ⟨e.symm.trans hh.1, hh.2⟩) ?_
  simp only [pick, List.map_cons, List.map_nil, List.getD_cons_zero, List.getD_cons_succ]
  have hS : (Below w9.heap.size w9) _ := (Below.refl _ _).drew
  refine rg_take (v := ?v9_0) rfl rfl hS ?y9_0 ?_
  case y9_0 => intro W hW; (try subst hW); go_simp; try with_reducible rfl
  simp only [Act.put, List.setIfInBounds_toArray, List.set_cons_zero, List.set_cons_succ]
  refine rg_take (v := ?v9_1) rfl rfl hS ?y9_1 ?_
  case y9_1 => intro W hW; (try subst hW); go_simp; try with_reducible rfl
  simp only [Act.put, List.setIfInBounds_toArray, List.set_cons_zero, List.set_cons_succ]
  refine rg_take (v := ?v9_2) rfl rfl hS ?y9_2 ?_
  case y9_2 => intro W hW; (try subst hW); go_simp; try with_reducible rfl
  simp only [Act.put, List.setIfInBounds_toArray, List.set_cons_zero, List.set_cons_succ]
  refine rg_take (v := ?v9_3) rfl rfl hS ?y9_3 ?_
  case y9_3 => intro W hW; (try subst hW); go_simp; try with_reducible rfl
  simp only [Act.put, List.setIfInBounds_toArray, List.set_cons_zero, List.set_cons_succ]
  refine rg_take (v := ?v9_4) rfl rfl hS ?y9_4 ?_
  case y9_4 => intro W hW; (try subst hW); go_simp; try with_reducible rfl
  simp only [Act.put, List.setIfInBounds_toArray, List.set_cons_zero, List.set_cons_succ]
  refine rg_take (v := ?v9_5) rfl rfl hS ?y9_5 ?_
  case y9_5 => intro W hW; (try subst hW); go_simp; try with_reducible rfl
  simp only [Act.put, List.setIfInBounds_toArray, List.set_cons_zero, List.set_cons_succ]
  refine rg_take (v := ?v9_6) rfl rfl hS ?y9_6 ?_
  case y9_6 => intro W hW; (try subst hW); go_simp; try with_reducible rfl
  simp only [Act.put, List.setIfInBounds_toArray, List.set_cons_zero, List.set_cons_succ]
  refine rg_take (v := ?v9_7) rfl rfl hS ?y9_7 ?_
  case y9_7 => intro W hW; (try subst hW); go_simp; try with_reducible rfl
  simp only [Act.put, List.setIfInBounds_toArray, List.set_cons_zero, List.set_cons_succ]
  refine rg_take (v := ?v9_8) rfl rfl hS ?y9_8 ?_
  case y9_8 => intro W hW; (try subst hW); go_simp; try with_reducible rfl
  simp only [Act.put, List.setIfInBounds_toArray, List.set_cons_zero, List.set_cons_succ]
  refine rg_take (v := ?v9_9) rfl rfl hS ?y9_9 ?_
  case y9_9 => intro W hW; (try subst hW); go_simp; try with_reducible rfl
  simp only [Act.put, List.setIfInBounds_toArray, List.set_cons_zero, List.set_cons_succ]
  refine rg_take (v := ?v9_10) rfl rfl hS ?y9_10 ?_
  case y9_10 => intro W hW; (try subst hW); go_simp; try with_reducible rfl
  simp only [Act.put, List.setIfInBounds_toArray, List.set_cons_zero, List.set_cons_succ]
  refine rg_take (v := ?v9_11) rfl rfl hS ?y9_11 ?_
  case y9_11 => intro W hW; (try subst hW); go_simp; try with_reducible rfl
  simp only [Act.put, List.setIfInBounds_toArray, List.set_cons_zero, List.set_cons_succ]
  refine rg_take (v := ?v9_12) rfl rfl hS ?y9_12 ?_
  case y9_12 => intro W hW; (try subst hW); go_simp; try with_reducible rfl
  simp only [Act.put, List.setIfInBounds_toArray, List.set_cons_zero, List.set_cons_succ]
  refine rg_take (v := ?v9_13) rfl rfl hS ?y9_13 ?_
  case y9_13 => intro W hW; (try subst hW); go_simp; try with_reducible rfl
  simp only [Act.put, List.setIfInBounds_toArray, List.set_cons_zero, List.set_cons_succ]
  refine rg_take (v := ?v9_14) rfl rfl hS ?y9_14 ?_
  case y9_14 => intro W hW; (try subst hW); go_simp; try with_reducible rfl
  simp only [Act.put, List.setIfInBounds_toArray, List.set_cons_zero, List.set_cons_succ]
  refine rg_take (v := ?v9_15) rfl rfl hS ?y9_15 ?_
  case y9_15 => intro W hW; (try subst hW); go_simp; try with_reducible rfl
  simp only [Act.put, List.setIfInBounds_toArray, List.set_cons_zero, List.set_cons_succ]
  refine rg_take rfl rfl hS (fun W hW => exec_load_agg at25w (.tmp 1) rfl ga 25 (bvs dA) rfl (ra9.below hW ra9.lt) (by rw [bvs_length]; exact LA.out)) ?_
  simp only [Act.put, List.setIfInBounds_toArray, List.set_cons_zero, List.set_cons_succ]
  refine rg_take rfl rfl hS (fun W hW => exec_load_agg at25w (.tmp 2) rfl (ga + 1) 25 (bvs dB) rfl (rb9.below hW rb9.lt) (by rw [bvs_length]; exact LB.out)) ?_
  simp only [Act.put, List.setIfInBounds_toArray, List.set_cons_zero, List.set_cons_succ]
  refine rg_one rfl rfl ?_; intro K hK; go_simp
  with_reducible refine (H2 S3 g _ (hl9.below hS)).out.mono ?_
  rintro e w10 ⟨rfl, hw10⟩
  have hS1 : Below w9.heap.size w9 w10 := Below.trans hS (hw10.mono (Below.size hS))
  refine hK _ _ (fun _ => hS1) ?_; clear hK
  refine rg_one rfl rfl ?_; intro K hK; go_simp
  with_reducible refine (FI _).out.mono ?_
  rintro e w11 ⟨rfl, hw11⟩
  have hS2 : Below w9.heap.size w9 w11 := Below.trans hS1 (hw11.mono (Below.size hS1))
  refine hK _ _ (fun _ => hS2) ?_; clear hK
  refine rg_one rfl rfl ?_; intro K hK; go_simp
  with_reducible refine (N1 _).out.mono ?_
  rintro e w12 ⟨rfl, hw12⟩
  have hS3 : Below w9.heap.size w9 w12 := Below.trans hS2 (hw12.mono (Below.size hS2))
  refine hK _ _ (fun _ => hS3) ?_; clear hK
  refine rg_one rfl rfl ?_; intro K hK; go_simp
  with_reducible refine (N2 _).out.mono ?_
  rintro e w13 ⟨rfl, hw13⟩
  have hS4 : Below w9.heap.size w9 w13 := Below.trans hS3 (hw13.mono (Below.size hS3))
  refine hK _ _ (fun _ => hS4) ?_; clear hK
  refine rg_take rfl rfl hS4 (fun W hW => exec_eql_same ab25 _ _ rfl h2 rfl rfl HN2.out) ?_
  simp only [Act.put, List.setIfInBounds_toArray, List.set_cons_zero, List.set_cons_succ]
  refine rg_take (v := ?v9_23) rfl rfl hS4 ?y9_23 ?_
  case y9_23 => intro W hW; (try subst hW); go_simp; try with_reducible rfl
  simp only [Act.put, List.setIfInBounds_toArray, List.set_cons_zero, List.set_cons_succ]
  refine rg_take (v := ?v9_24) rfl rfl hS4 ?y9_24 ?_
  case y9_24 => intro W hW; (try subst hW); go_simp; try with_reducible rfl
  simp only [Act.put, List.setIfInBounds_toArray, List.set_cons_zero, List.set_cons_succ]
  refine rg_done (by kernel_rfl) ?_
  go_wp2_with fail
  go_ret
  exact ⟨rfl, bthen hB9 hS4 hB9.size⟩
end Go.Proofs.Ytehbahobkgoapaa
namespace Go.Proofs.Ytehbahobkgoapaa
open Go Go.RowKit Go.ChangeShapes Go.WideShapes Go.ChangeAt
section
variable {H : Type} {enc : TypeId × Value → H} {P : Program} {W : World} {base : Nat}
theorem arr_bytes {n : Nat} {T E : TypeId} {fuel : Nat} {cs : List Value} {x : DataW H × List MemPlace} (ht : P.underlying T = some (.array n E)) (he : P.underlying E = some (.int .u8)) (hc : P.cellsOf E = 1) (hl : cs.length = n)
    (hf : DataW.trod enc P W 0 (fun _ => true) true fuel T cs = some x) : ∃ k : List UInt8, k.length = n ∧ cs = bvs k := by
  obtain ⟨xs, m, _, _, _, hxl, hi⟩ := DataW.trod_array ht hf
  have hone : ∀ i, i < n → ∃ x : UInt8, cs[i]? = some (bv x) := by
    intro i hi'
    have h1 := hi i hi'
    rw [hc, Nat.mul_one, List.drop_eq_getElem_cons (by omega), List.take_succ_cons, List.take_zero, List.getElem?_eq_getElem (by omega)] at h1
    obtain ⟨z, hz, _, hw⟩ := DataW.trod_int he h1
    injection hz with hz _
    exact ⟨_, by rw [List.getElem?_eq_getElem (by omega), hz, byte_of_int hw]⟩
  obtain ⟨f, hfn⟩ := Deep.choose_lt hone
  refine ⟨(List.range n).map f, by simp, ?_⟩
  apply List.ext_getElem?
  intro i
  simp only [bvs, List.map_map, List.getElem?_map]
  by_cases h : i < n
  · rw [hfn i h, List.getElem?_range h]; rfl
  · rw [List.getElem?_eq_none (by omega), List.getElem?_eq_none (by simp; omega)]; rfl
end
end Go.Proofs.Ytehbahobkgoapaa
namespace Go.Proofs.Ytehbahobkgoapaa
open Go Go.RowKit Go.ChangeShapes Go.WideShapes Go.ChangeAt
/-- A call of a log: three numbers and a digest. -/
structure LAct where
  k : Int
  n : Int
  m : Int
  r : List UInt8
instance : Inhabited LAct := ⟨⟨0, 0, 0, []⟩⟩
def LAct.cs (a : LAct) : List Value := [.int .i64 a.k, .int .i64 a.n, .int .i64 a.m] ++ bvs a.r
structure LAct.Ok (a : LAct) : Prop where
  k : -9223372036854775808 ≤ a.k ∧ a.k ≤ 9223372036854775807
  n : -9223372036854775808 ≤ a.n ∧ a.n ≤ 9223372036854775807
  m : -9223372036854775808 ≤ a.m ∧ a.m ≤ 9223372036854775807
  r : a.r.length = 32
theorem LAct.Ok.len {a : LAct} (h : a.Ok) : a.cs.length = 35 := by simp [LAct.cs, bvs, h.r]
section
variable {H : Type} {enc : TypeId × Value → H} {P : Program} {W : World} {base : Nat}
theorem lact_of {E R : TypeId} {f0 f1 f2 f3 : Field} (he : P.underlying E = some (.struct #[f0, f1, f2, f3]))
    (o0 : f0.offset = 0) (o1 : f1.offset = 1) (o2 : f2.offset = 2) (o3 : f3.offset = 3) (c0 : P.cellsOf f0.type = 1) (c1 : P.cellsOf f1.type = 1) (c2 : P.cellsOf f2.type = 1) (c3 : P.cellsOf f3.type = 32)
    (u0 : P.underlying f0.type = some (.int .i64)) (u1 : P.underlying f1.type = some (.int .i64)) (u2 : P.underlying f2.type = some (.int .i64)) (u3 : P.underlying f3.type = some (.array 32 R)) (uR : P.underlying R = some (.int .u8)) (cR : P.cellsOf R = 1)
    {cs' : List Value} {fuel : Nat} {x : DataW H × List MemPlace} (hlen : cs'.length = 35) (h2 : DataW.trod enc P W 0 (fun _ => true) true fuel E cs' = some x) : ∃ q : LAct, cs' = q.cs ∧ q.Ok := by
  obtain ⟨y0, y1, y2, y3, fu, _, _, t0, t1, t2, t3⟩ := Joins.trod_struct4 he h2
  rw [o0, c0] at t0
  rw [o1, c1] at t1
  rw [o2, c2] at t2
  rw [o3, c3] at t3
  obtain ⟨z0, e0, _, w0⟩ := DataW.trod_int u0 t0
  obtain ⟨z1, e1, _, w1⟩ := DataW.trod_int u1 t1
  obtain ⟨z2, e2, _, w2⟩ := DataW.trod_int u2 t2
  obtain ⟨r, hr, e3⟩ := arr_bytes u3 uR cR (by rw [List.length_take, List.length_drop]; omega) t3
  have ecs : cs' = (⟨z0, z1, z2, r⟩ : LAct).cs := by
    match cs', hlen with
    | x0 :: x1 :: x2 :: rest, hl =>
      have hr : rest.length = 32 := by simpa using hl
      simp only [List.drop_zero, List.take_succ_cons, List.take_zero, List.drop_succ_cons, List.cons.injEq, and_true] at e0 e1 e2 e3
      rw [List.take_of_length_le (by omega)] at e3
      simp [LAct.cs, e0, e1, e2, e3]
  exact ⟨⟨z0, z1, z2, r⟩, ecs, ⟨i64_wf w0, i64_wf w1, i64_wf w2, hr⟩⟩
theorem open_lact {E R : TypeId} {f0 f1 f2 f3 : Field} (he : P.underlying E = some (.struct #[f0, f1, f2, f3])) (cE : P.cellsOf E = 35)
    (o0 : f0.offset = 0) (o1 : f1.offset = 1) (o2 : f2.offset = 2) (o3 : f3.offset = 3) (c0 : P.cellsOf f0.type = 1) (c1 : P.cellsOf f1.type = 1) (c2 : P.cellsOf f2.type = 1) (c3 : P.cellsOf f3.type = 32)
    (u0 : P.underlying f0.type = some (.int .i64)) (u1 : P.underlying f1.type = some (.int .i64)) (u2 : P.underlying f2.type = some (.int .i64)) (u3 : P.underlying f3.type = some (.array 32 R)) (uR : P.underlying R = some (.int .u8)) (cR : P.cellsOf R = 1)
    {v : Value} {d : DataW H} {p : List MemPlace} (hv : Value.okWide P W .any base E v) (h : DataW.Trod enc P W 0 (fun _ => true) true E v d p) :
    ∃ q : LAct, v = .agg q.cs.toArray ∧ q.Ok := by
  obtain ⟨cs, rfl, hs⟩ : ∃ cs, v = .agg cs ∧ cs.size = P.cellsOf E := by
    simp only [Value.okWide, he] at hv
    obtain ⟨cs, h1, h2, _⟩ := hv
    exact ⟨cs, h1, h2⟩
  obtain ⟨fuel, hf⟩ := h
  obtain ⟨q, hq, ok⟩ := lact_of he o0 o1 o2 o3 c0 c1 c2 c3 u0 u1 u2 u3 uR cR (by simpa [Value.cells, cE] using hs) hf
  refine ⟨q, ?_, ok⟩
  congr 1
  rw [← hq]
  simp [Value.cells]
end
end Go.Proofs.Ytehbahobkgoapaa
namespace Go.Proofs.Ytehbahobkgoapaa
open Go Go.RowKit
set_option linter.unusedSimpArgs false
set_option linter.unusedVariables false
set_option linter.unusedSectionVars false
/-- pv is no log, in every world that meets N. -/
def NoLg (N : World → Prop) (pv : Value) : Prop := ∀ u, N u → Calls Try.prog 154 #[pv] u fun e w' => e = .returned (.bool true) ∧ u = w'
section
variable {N : World → Prop} {pv : Value} (C : NoLg N pv) (w : World) (hN : N w) (hA : ∀ u o, N u → N (u.alloc o))
include C hN
set_option maxRecDepth 100000 in
set_option maxHeartbeats 1000000 in
theorem llen_no : Calls Try.prog 116 #[pv] w fun e w' => e = .returned (.int .i64 0) ∧ w = w' := by
  have D := Lib.hid (C w hN)
  clear C hN
  go_enter Try.func116, Try.ntmps116
  go_wp2_with (first
    | (go_at_call 154; with_reducible refine D.out.mono ?_; rintro e w1 ⟨rfl, rfl⟩))
  go_ret
  exact ⟨rfl, rfl⟩
set_option maxRecDepth 100000 in
set_option maxHeartbeats 1000000 in
theorem roots_no (z y : Int) : Calls Try.prog 118 #[pv, .int .i64 z, .int .i64 y] w fun e w' => e = .returned (.tuple #[.slice none 0 0, .int .i64 1]) ∧ w = w' := by
  have D := Lib.hid (C w hN)
  clear C hN
  go_enter Try.func118, Try.ntmps118
  go_wp2_with (first
    | (go_at_call 154; with_reducible refine D.out.mono ?_; rintro e w1 ⟨rfl, rfl⟩))
  go_ret2
  exact ⟨rfl, rfl⟩
include hA
set_option maxRecDepth 100000 in
set_option maxHeartbeats 1000000 in
theorem add_no (r : List UInt8) : Calls Try.prog 122 #[pv, .agg (bvs r).toArray] w fun e w' => e = .returned (.tuple #[.int .i64 0, .int .i64 1]) ∧ Below w.heap.size w w' := by
  have D := Lib.hid (C _ (hA w (.cells (bvs r).toArray 25) hN))
  have hw0 : Below w.heap.size w (w.alloc (.cells (bvs r).toArray 25)) := (Below.refl _ _).alloc (Nat.le_refl _) _
  clear C hN hA
  go_enter Try.func122, Try.ntmps122
  go_upto_region 1 with fail
  generalize hW : World.alloc w _ = w0
  have h3 : Below w.heap.size w w0 ∧ Hid (Calls Try.prog 154 #[pv] w0 fun e w' => e = .returned (.bool true) ∧ w0 = w') := by rw [← hW]; exact ⟨hw0, D⟩
  clear hW hw0 D
  obtain ⟨hw0, D⟩ := h3
  go_wp2_with (first
    | (go_at_call 154; with_reducible refine D.out.mono ?_; rintro e w1 ⟨rfl, rfl⟩))
  go_ret2
  exact ⟨rfl, hw0⟩
set_option maxRecDepth 100000 in
set_option maxHeartbeats 1000000 in
theorem find_no (r : List UInt8) : Calls Try.prog 119 #[pv, .agg (bvs r).toArray] w fun e w' => e = .returned (.tuple #[.int .i64 0, .bool false]) ∧ Below w.heap.size w w' := by
  have D := Lib.hid (C _ (hA w (.cells (bvs r).toArray 25) hN))
  have hw0 : Below w.heap.size w (w.alloc (.cells (bvs r).toArray 25)) := (Below.refl _ _).alloc (Nat.le_refl _) _
  clear C hN hA
  go_enter Try.func119, Try.ntmps119
  go_upto_region 1 with fail
  generalize hW : World.alloc w _ = w0
  have h3 : Below w.heap.size w w0 ∧ Hid (Calls Try.prog 154 #[pv] w0 fun e w' => e = .returned (.bool true) ∧ w0 = w') := by rw [← hW]; exact ⟨hw0, D⟩
  clear hW hw0 D
  obtain ⟨hw0, D⟩ := h3
  go_wp2_with (first
    | (go_at_call 154; with_reducible refine D.out.mono ?_; rintro e w1 ⟨rfl, rfl⟩))
  go_ret2
  exact ⟨rfl, hw0⟩
set_option maxRecDepth 100000 in
set_option maxHeartbeats 1000000 in
theorem lhead_no : Calls Try.prog 120 #[pv] w fun e w' => e = .returned (.agg (bvs (zb 32)).toArray) ∧ Below w.heap.size w w' := by
  have D := Lib.hid (C _ (hA w (.cells (bvs (zb 32)).toArray 25) hN))
  have hbz : Blk (w.alloc (.cells (bvs (zb 32)).toArray 25)) w.heap.size 25 (bvs (zb 32)) := Blk.new _ _ _
  have hw0 : Below w.heap.size w (w.alloc (.cells (bvs (zb 32)).toArray 25)) := (Below.refl _ _).alloc (Nat.le_refl _) _
  clear C hN hA
  go_enter Try.func120, Try.ntmps120
  go_upto_region 1 with fail
  generalize hW : World.alloc w _ = w0
  have h3 : Blk w0 w.heap.size 25 (bvs (zb 32)) ∧ Below w.heap.size w w0 ∧ Hid (Calls Try.prog 154 #[pv] w0 fun e w' => e = .returned (.bool true) ∧ w0 = w') := by rw [← hW]; exact ⟨hbz, hw0, D⟩
  clear hW hbz hw0 D
  obtain ⟨hbz, hw0, D⟩ := h3
  go_upto_region 2 with (first
    | (go_at_call 154; with_reducible refine D.out.mono ?_; rintro e w1 ⟨rfl, rfl⟩))
  refine wp_region_lit ?_
  refine wpList_yield rfl _ (exec_build _ rfl (bvs (zb 32)).toArray (by kernel_rfl)) ?_
  simp only [Act.put, List.setIfInBounds_toArray, List.set_cons_zero, List.set_cons_succ]
  refine wpList_store_at at25w.i rfl (.tmp 2) (.tmp 5) rfl w.heap.size 0 25 (bvs (zb 32)) (bvs (zb 32)) rfl rfl hbz (by rw [bvs_length, zb_length]) (by rw [bvs_length, zb_length]; omega) (bvs_one _) ?_
  intro w4 hb4 hg4 hs4
  (try simp only [Act.put, List.setIfInBounds_toArray, List.set_cons_zero, List.set_cons_succ])
  refine wpList_nil ?_
  go_wp2_with fail
  (try simp only [Exit.inBlock, Exit.then])
  rw [splice_all _ _ rfl] at hb4
  refine bodyPost_ret (ret_cell rfl at25w _ _ w.heap.size 25 (bvs (zb 32)) rfl hb4 (by rw [bvs_length, zb_length])) rfl ?_
  exact ⟨rfl, hw0.grown hg4 hw0.size (by intro k hk; cases hk; omega)⟩
set_option maxRecDepth 100000 in
set_option maxHeartbeats 1000000 in
theorem lheadAt_no (z : Int) : Calls Try.prog 117 #[pv, .int .i64 z] w fun e w' => e = .returned (.tuple #[.agg (bvs (zb 32)).toArray, .int .i64 1]) ∧ Below w.heap.size w w' := by
  have D := Lib.hid (C _ (hA w (.cells (bvs (zb 32)).toArray 25) hN))
  have hbz : Blk (w.alloc (.cells (bvs (zb 32)).toArray 25)) w.heap.size 25 (bvs (zb 32)) := Blk.new _ _ _
  have hw0 : Below w.heap.size w (w.alloc (.cells (bvs (zb 32)).toArray 25)) := (Below.refl _ _).alloc (Nat.le_refl _) _
  clear C hN hA
  go_enter Try.func117, Try.ntmps117
  go_upto_region 1 with fail
  generalize hW : World.alloc w _ = w0
  have h3 : Blk w0 w.heap.size 25 (bvs (zb 32)) ∧ Below w.heap.size w w0 ∧ Hid (Calls Try.prog 154 #[pv] w0 fun e w' => e = .returned (.bool true) ∧ w0 = w') := by rw [← hW]; exact ⟨hbz, hw0, D⟩
  clear hW hbz hw0 D
  obtain ⟨hbz, hw0, D⟩ := h3
  go_upto_region 2 with (first
    | (go_at_call 154; with_reducible refine D.out.mono ?_; rintro e w1 ⟨rfl, rfl⟩))
  refine wp_region_lit ?_
  refine wpList_yield rfl _ (exec_build _ rfl (bvs (zb 32)).toArray (by kernel_rfl)) ?_
  simp only [Act.put, List.setIfInBounds_toArray, List.set_cons_zero, List.set_cons_succ]
  refine wpList_store_at at25w.i rfl (.tmp 4) (.tmp 8) rfl w.heap.size 0 25 (bvs (zb 32)) (bvs (zb 32)) rfl rfl hbz (by rw [bvs_length, zb_length]) (by rw [bvs_length, zb_length]; omega) (bvs_one _) ?_
  intro w4 hb4 hg4 hs4
  (try simp only [Act.put, List.setIfInBounds_toArray, List.set_cons_zero, List.set_cons_succ])
  refine wpList_yield rfl _ (exec_assign _ rfl) ?_
  simp only [Act.put, Act.eval, Array.getD_eq_getD_getElem?, List.getElem?_toArray, List.getElem?_cons_succ, List.getElem?_cons_zero, Option.getD_some, List.setIfInBounds_toArray, List.set_cons_zero, List.set_cons_succ]
  refine wpList_nil ?_
  go_wp2_with fail
  (try simp only [Exit.inBlock, Exit.then])
  rw [splice_all _ _ rfl] at hb4
  refine bodyPost_ret (ret_cell_tmp rfl at25w _ _ w.heap.size 25 (bvs (zb 32)) rfl hb4 (by rw [bvs_length, zb_length])) rfl ?_
  exact ⟨rfl, hw0.grown hg4 hw0.size (by intro k hk; cases hk; omega)⟩
set_option maxRecDepth 100000 in
set_option maxHeartbeats 1000000 in
theorem lat_no (z : Int) : Calls Try.prog 121 #[pv, .int .i64 z] w fun e w' => e = .returned (.tuple #[.agg (bvs (zb 32)).toArray, .int .i64 1]) ∧ Below w.heap.size w w' := by
  have D := Lib.hid (C _ (hA w (.cells (bvs (zb 32)).toArray 25) hN))
  have hbz : Blk (w.alloc (.cells (bvs (zb 32)).toArray 25)) w.heap.size 25 (bvs (zb 32)) := Blk.new _ _ _
  have hw0 : Below w.heap.size w (w.alloc (.cells (bvs (zb 32)).toArray 25)) := (Below.refl _ _).alloc (Nat.le_refl _) _
  clear C hN hA
  go_enter Try.func121, Try.ntmps121
  go_upto_region 1 with fail
  generalize hW : World.alloc w _ = w0
  have h3 : Blk w0 w.heap.size 25 (bvs (zb 32)) ∧ Below w.heap.size w w0 ∧ Hid (Calls Try.prog 154 #[pv] w0 fun e w' => e = .returned (.bool true) ∧ w0 = w') := by rw [← hW]; exact ⟨hbz, hw0, D⟩
  clear hW hbz hw0 D
  obtain ⟨hbz, hw0, D⟩ := h3
  go_upto_region 2 with (first
    | (go_at_call 154; with_reducible refine D.out.mono ?_; rintro e w1 ⟨rfl, rfl⟩))
  refine wp_region_lit ?_
  refine wpList_yield rfl _ (exec_build _ rfl (bvs (zb 32)).toArray (by kernel_rfl)) ?_
  simp only [Act.put, List.setIfInBounds_toArray, List.set_cons_zero, List.set_cons_succ]
  refine wpList_store_at at25w.i rfl (.tmp 4) (.tmp 8) rfl w.heap.size 0 25 (bvs (zb 32)) (bvs (zb 32)) rfl rfl hbz (by rw [bvs_length, zb_length]) (by rw [bvs_length, zb_length]; omega) (bvs_one _) ?_
  intro w4 hb4 hg4 hs4
  (try simp only [Act.put, List.setIfInBounds_toArray, List.set_cons_zero, List.set_cons_succ])
  refine wpList_yield rfl _ (exec_assign _ rfl) ?_
  simp only [Act.put, Act.eval, Array.getD_eq_getD_getElem?, List.getElem?_toArray, List.getElem?_cons_succ, List.getElem?_cons_zero, Option.getD_some, List.setIfInBounds_toArray, List.set_cons_zero, List.set_cons_succ]
  refine wpList_nil ?_
  go_wp2_with fail
  (try simp only [Exit.inBlock, Exit.then])
  rw [splice_all _ _ rfl] at hb4
  refine bodyPost_ret (ret_cell_tmp rfl at25w _ _ w.heap.size 25 (bvs (zb 32)) rfl hb4 (by rw [bvs_length, zb_length])) rfl ?_
  exact ⟨rfl, hw0.grown hg4 hw0.size (by intro k hk; cases hk; omega)⟩
end
theorem exec_c1 {w : World} {a : Act} {o : Oper} (x : Operand) (ho : o.op = .fieldAddr 141 x 1) (g : Nat) (hx : a.eval x = .pointer (some ⟨g, 0, none⟩)) : (execOp a.eval o).run Try.prog w = .ok (.value (.pointer (some ⟨g, 1, none⟩))) w := by
  unfold execOp
  simp only [ho, hx]
  go_simp
theorem exec_c2 {w : World} {a : Act} {o : Oper} (x : Operand) (ho : o.op = .fieldAddr 141 x 2) (g : Nat) (hx : a.eval x = .pointer (some ⟨g, 0, none⟩)) : (execOp a.eval o).run Try.prog w = .ok (.value (.pointer (some ⟨g, 2, none⟩))) w := by
  unfold execOp
  simp only [ho, hx]
  go_simp
theorem exec_c3 {w : World} {a : Act} {o : Oper} (x : Operand) (ho : o.op = .fieldAddr 141 x 3) (g : Nat) (hx : a.eval x = .pointer (some ⟨g, 0, none⟩)) : (execOp a.eval o).run Try.prog w = .ok (.value (.pointer (some ⟨g, 3, none⟩))) w := by
  unfold execOp
  simp only [ho, hx]
  go_simp
theorem LAct.cells (a : LAct) (ha : a.Ok) {w : World} {g : Nat} (hb : Blk w g 141 a.cs) : w.cell? ⟨g, 0, none⟩ = some (.int .i64 a.k) ∧ w.cell? ⟨g, 1, none⟩ = some (.int .i64 a.n) ∧ w.cell? ⟨g, 2, none⟩ = some (.int .i64 a.m) := ⟨by rw [hb.cell]; rfl, by rw [hb.cell]; rfl, by rw [hb.cell]; rfl⟩
theorem LAct.root (a : LAct) (ha : a.Ok) : (a.cs.drop 3).take 32 = bvs a.r := by
  unfold LAct.cs
  rw [show ([Value.int .i64 a.k, .int .i64 a.n, .int .i64 a.m] ++ bvs a.r).drop 3 = bvs a.r from rfl]
  exact List.take_of_length_le (by rw [bvs_length, ha.r]; omega)
set_option maxRecDepth 100000 in
set_option maxHeartbeats 4000000 in
theorem none_any (pv : Value) (w : World) (C : NoLg (fun u => Below w.heap.size w u) pv) (a : LAct) (ha : a.Ok) : Calls Try.prog 112 #[pv, .agg a.cs.toArray] w fun e w' => e = .returned (.bool true) ∧ Below w.heap.size w w' := by
  have hbz : Blk (w.alloc (.cells a.cs.toArray 141)) w.heap.size 141 a.cs := Blk.new _ _ _
  have hw0 : Below w.heap.size w (w.alloc (.cells a.cs.toArray 141)) := (Below.refl _ _).alloc (Nat.le_refl _) _
  have hal : ∀ (u : World) (o : Obj), Below w.heap.size w u → Below w.heap.size w (u.alloc o) := fun u o h => h.alloc h.size o
  have CA := fun (u : World) (h : Below w.heap.size w u) => Lib.hid (add_no C u h hal a.r)
  have CH := fun (u : World) (h : Below w.heap.size w u) => Lib.hid (lheadAt_no C u h hal a.n)
  have CT := fun (u : World) (h : Below w.heap.size w u) => Lib.hid (lat_no C u h hal a.n)
  have CR := fun (u : World) (h : Below w.heap.size w u) => Lib.hid (roots_no C u h a.n a.m)
  have CF := fun (u : World) (h : Below w.heap.size w u) => Lib.hid (find_no C u h hal a.r)
  have CL := fun (u : World) (h : Below w.heap.size w u) => Lib.hid (llen_no C u h)
  have CD := fun (u : World) (h : Below w.heap.size w u) => Lib.hid (lhead_no C u h hal)
  have HR := Lib.hid (a.root ha)
  have HL := Lib.hid ha.r
  have HC := fun (u : World) (g : Nat) (hb : Blk u g 141 a.cs) => Lib.hid (a.cells ha hb)
  have z25 : ∀ u : World, Hid (Blk (u.alloc (.cells (bvs (zb 32)).toArray 25)) u.heap.size 25 (bvs (zb 32))) := fun u => Lib.hid (Blk.new _ _ _)
  clear C hal ha
  generalize a.cs = cs at *
  generalize a.r = r at *
  generalize a.k = ak at *
  generalize a.n = an at *
  generalize a.m = am at *
  go_enter Try.func112, Try.ntmps112
  go_upto_region 1 with fail
  generalize hW : World.alloc w _ = w0
  have h3 : Blk w0 w.heap.size 141 cs ∧ Below w.heap.size w w0 := by rw [← hW]; exact ⟨hbz, hw0⟩
  clear hW hbz hw0
  obtain ⟨b0, hw0⟩ := h3
  have hg0 := hw0.size
  refine wp_region_lit ?_
  refine wpList_yield rfl _ (exec_move _ rfl) ?_
  simp only [Act.put, Act.eval, Array.getD_eq_getD_getElem?, List.getElem?_toArray, List.getElem?_cons_succ, List.getElem?_cons_zero, Option.getD_some, List.setIfInBounds_toArray, List.set_cons_zero, List.set_cons_succ]
  refine wpList_yield rfl _ (exec_c3 _ rfl w.heap.size rfl) ?_
  simp only [Act.put, List.setIfInBounds_toArray, List.set_cons_zero, List.set_cons_succ]
  refine wpList_yield rfl _ (exec_load_at at25w _ rfl w.heap.size 3 141 cs (bvs r) rfl b0 HR.out (by rw [bvs_length]; exact HL.out)) ?_
  simp only [Act.put, List.setIfInBounds_toArray, List.set_cons_zero, List.set_cons_succ]
  refine wpList_plain rfl fun K hK => ?_; go_simp
  with_reducible refine (CA _ hw0).out.mono ?_
  rintro e w1 ⟨rfl, hw1⟩
  refine hK _ _ ?_; clear hK
  (try simp only [Act.put, List.setIfInBounds_toArray, List.set_cons_zero, List.set_cons_succ])
  refine wpList_yield rfl _ (exec_move _ rfl) ?_
  simp only [Act.put, Act.eval, Array.getD_eq_getD_getElem?, List.getElem?_toArray, List.getElem?_cons_succ, List.getElem?_cons_zero, Option.getD_some, List.setIfInBounds_toArray, List.set_cons_zero, List.set_cons_succ]
  refine wpList_yield rfl ?vp1_5 ?yp1_5 ?_
  case yp1_5 => go_simp; try with_reducible rfl
  simp only [Act.put, List.setIfInBounds_toArray, List.set_cons_zero, List.set_cons_succ]
  refine wpList_yield rfl ?vp2_6 ?yp2_6 ?_
  case yp2_6 => go_simp; try with_reducible rfl
  simp only [Act.put, List.setIfInBounds_toArray, List.set_cons_zero, List.set_cons_succ]
  refine wpList_yield rfl _ (exec_assign _ rfl) ?_
  simp only [Act.put, Act.eval, Array.getD_eq_getD_getElem?, List.getElem?_toArray, List.getElem?_cons_succ, List.getElem?_cons_zero, Option.getD_some, List.setIfInBounds_toArray, List.set_cons_zero, List.set_cons_succ]
  refine wpList_yield rfl _ (exec_assign _ rfl) ?_
  simp only [Act.put, Act.eval, Array.getD_eq_getD_getElem?, List.getElem?_toArray, List.getElem?_cons_succ, List.getElem?_cons_zero, Option.getD_some, List.setIfInBounds_toArray, List.set_cons_zero, List.set_cons_succ]
  refine wpList_nil ?_
  have b1 := b0.below hw1 b0.lt
  have hB1 := bthen hw0 hw1 hg0
  clear b0 hw0 hw1
  have c1 := HC w1 w.heap.size b1
  go_upto_region 2 with fail
  refine wp_region_lit ?_
  refine wpList_yield rfl _ (exec_move _ rfl) ?_
  simp only [Act.put, Act.eval, Array.getD_eq_getD_getElem?, List.getElem?_toArray, List.getElem?_cons_succ, List.getElem?_cons_zero, Option.getD_some, List.setIfInBounds_toArray, List.set_cons_zero, List.set_cons_succ]
  refine wpList_yield rfl _ (exec_c1 _ rfl w.heap.size rfl) ?_
  simp only [Act.put, List.setIfInBounds_toArray, List.set_cons_zero, List.set_cons_succ]
  refine wpList_yield rfl _ (exec_load3 _ rfl _ _ rfl c1.out.2.1) ?_
  simp only [Act.put, List.setIfInBounds_toArray, List.set_cons_zero, List.set_cons_succ]
  refine wpList_plain rfl fun K hK => ?_; go_simp
  with_reducible refine (CH _ hB1).out.mono ?_
  rintro e w2 ⟨rfl, hw2⟩
  refine hK _ _ ?_; clear hK
  (try simp only [Act.put, List.setIfInBounds_toArray, List.set_cons_zero, List.set_cons_succ])
  refine wpList_yield rfl _ (exec_move _ rfl) ?_
  simp only [Act.put, Act.eval, Array.getD_eq_getD_getElem?, List.getElem?_toArray, List.getElem?_cons_succ, List.getElem?_cons_zero, Option.getD_some, List.setIfInBounds_toArray, List.set_cons_zero, List.set_cons_succ]
  refine wpList_yield rfl ?vp3_5 ?yp3_5 ?_
  case yp3_5 => go_simp; try with_reducible rfl
  simp only [Act.put, List.setIfInBounds_toArray, List.set_cons_zero, List.set_cons_succ]
  refine wpList_yield rfl ?vp4_6 ?yp4_6 ?_
  case yp4_6 => go_simp; try with_reducible rfl
  simp only [Act.put, List.setIfInBounds_toArray, List.set_cons_zero, List.set_cons_succ]
  refine wpList_plain rfl fun K hK => ?_; go_simp
  refine hK _ _ ?_; clear hK
  (try simp only [Act.put, List.setIfInBounds_toArray, List.set_cons_zero, List.set_cons_succ])
  refine wpList_store_at at25w.i rfl (.tmp 7) (.tmp 28) rfl w2.heap.size 0 25 (bvs (zb 32)) (bvs (zb 32)) rfl rfl (z25 w2).out (by rw [bvs_length, zb_length]) (by rw [bvs_length, zb_length]; omega) (bvs_one _) ?_
  intro w3 hb3 hg3 hs3
  (try simp only [Act.put, List.setIfInBounds_toArray, List.set_cons_zero, List.set_cons_succ])
  refine wpList_yield rfl _ (exec_assign _ rfl) ?_
  simp only [Act.put, Act.eval, Array.getD_eq_getD_getElem?, List.getElem?_toArray, List.getElem?_cons_succ, List.getElem?_cons_zero, Option.getD_some, List.setIfInBounds_toArray, List.set_cons_zero, List.set_cons_succ]
  refine wpList_nil ?_
  rw [splice_all _ _ rfl] at hb3
  have hB2 := bthen hB1 hw2 hB1.size
  have hB3 : Below w.heap.size w w3 := (hB2.alloc hB2.size _).grown hg3 (by have := hB2.size; simp; omega) (by intro k hk; cases hk; exact hB2.size)
  have b3 := ((b1.below hw2 b1.lt).alloc (.cells (bvs (zb 32)).toArray 25)).grown hg3 (by intro e; injection e with e; have := (b1.below hw2 b1.lt).lt; omega)
  clear b1 hB1 hw2 hg3 hs3 hB2 c1
  generalize w2.heap.size = g7 at *
  have c3 := HC w3 w.heap.size b3
  go_upto_region 3 with fail
  refine wp_region_lit ?_
  refine wpList_yield rfl _ (exec_move _ rfl) ?_
  simp only [Act.put, Act.eval, Array.getD_eq_getD_getElem?, List.getElem?_toArray, List.getElem?_cons_succ, List.getElem?_cons_zero, Option.getD_some, List.setIfInBounds_toArray, List.set_cons_zero, List.set_cons_succ]
  refine wpList_yield rfl _ (exec_c1 _ rfl w.heap.size rfl) ?_
  simp only [Act.put, List.setIfInBounds_toArray, List.set_cons_zero, List.set_cons_succ]
  refine wpList_yield rfl _ (exec_load3 _ rfl _ _ rfl c3.out.2.1) ?_
  simp only [Act.put, List.setIfInBounds_toArray, List.set_cons_zero, List.set_cons_succ]
  refine wpList_plain rfl fun K hK => ?_; go_simp
  with_reducible refine (CT _ hB3).out.mono ?_
  rintro e w4 ⟨rfl, hw4⟩
  refine hK _ _ ?_; clear hK
  (try simp only [Act.put, List.setIfInBounds_toArray, List.set_cons_zero, List.set_cons_succ])
  refine wpList_yield rfl _ (exec_move _ rfl) ?_
  simp only [Act.put, Act.eval, Array.getD_eq_getD_getElem?, List.getElem?_toArray, List.getElem?_cons_succ, List.getElem?_cons_zero, Option.getD_some, List.setIfInBounds_toArray, List.set_cons_zero, List.set_cons_succ]
  refine wpList_yield rfl ?vp5_5 ?yp5_5 ?_
  case yp5_5 => go_simp; try with_reducible rfl
  simp only [Act.put, List.setIfInBounds_toArray, List.set_cons_zero, List.set_cons_succ]
  refine wpList_yield rfl ?vp6_6 ?yp6_6 ?_
  case yp6_6 => go_simp; try with_reducible rfl
  simp only [Act.put, List.setIfInBounds_toArray, List.set_cons_zero, List.set_cons_succ]
  refine wpList_plain rfl fun K hK => ?_; go_simp
  refine hK _ _ ?_; clear hK
  (try simp only [Act.put, List.setIfInBounds_toArray, List.set_cons_zero, List.set_cons_succ])
  refine wpList_store_at at25w.i rfl (.tmp 9) (.tmp 35) rfl w4.heap.size 0 25 (bvs (zb 32)) (bvs (zb 32)) rfl rfl (z25 w4).out (by rw [bvs_length, zb_length]) (by rw [bvs_length, zb_length]; omega) (bvs_one _) ?_
  intro w5 hb5 hg5 hs5
  (try simp only [Act.put, List.setIfInBounds_toArray, List.set_cons_zero, List.set_cons_succ])
  refine wpList_yield rfl _ (exec_assign _ rfl) ?_
  simp only [Act.put, Act.eval, Array.getD_eq_getD_getElem?, List.getElem?_toArray, List.getElem?_cons_succ, List.getElem?_cons_zero, Option.getD_some, List.setIfInBounds_toArray, List.set_cons_zero, List.set_cons_succ]
  refine wpList_nil ?_
  rw [splice_all _ _ rfl] at hb5
  have hB4 := bthen hB3 hw4 hB3.size
  have hB5 : Below w.heap.size w w5 := (hB4.alloc hB4.size _).grown hg5 (by have := hB4.size; simp; omega) (by intro k hk; cases hk; exact hB4.size)
  have b4 := b3.below hw4 b3.lt
  have d4 := hb3.below hw4 hb3.lt
  have b5 := (b4.alloc (.cells (bvs (zb 32)).toArray 25)).grown hg5 (by intro e; injection e with e; have := b4.lt; omega)
  have d5 := (d4.alloc (.cells (bvs (zb 32)).toArray 25)).grown hg5 (by intro e; injection e with e; have := d4.lt; omega)
  clear b3 hB3 hw4 hg5 hs5 hB4 c3 b4 d4 hb3
  generalize w4.heap.size = g9 at *
  have c5 := HC w5 w.heap.size b5
  go_upto_region 4 with fail
  refine wp_region_lit ?_
  refine wpList_yield rfl _ (exec_move _ rfl) ?_
  simp only [Act.put, Act.eval, Array.getD_eq_getD_getElem?, List.getElem?_toArray, List.getElem?_cons_succ, List.getElem?_cons_zero, Option.getD_some, List.setIfInBounds_toArray, List.set_cons_zero, List.set_cons_succ]
  refine wpList_yield rfl _ (exec_c1 _ rfl w.heap.size rfl) ?_
  simp only [Act.put, List.setIfInBounds_toArray, List.set_cons_zero, List.set_cons_succ]
  refine wpList_yield rfl _ (exec_load3 _ rfl _ _ rfl c5.out.2.1) ?_
  simp only [Act.put, List.setIfInBounds_toArray, List.set_cons_zero, List.set_cons_succ]
  refine wpList_yield rfl _ (exec_c2 _ rfl w.heap.size rfl) ?_
  simp only [Act.put, List.setIfInBounds_toArray, List.set_cons_zero, List.set_cons_succ]
  refine wpList_yield rfl _ (exec_load3 _ rfl _ _ rfl c5.out.2.2) ?_
  simp only [Act.put, List.setIfInBounds_toArray, List.set_cons_zero, List.set_cons_succ]
  refine wpList_plain rfl fun K hK => ?_; go_simp
  with_reducible refine (CR _ hB5).out.mono ?_
  rintro e _ ⟨rfl, rfl⟩
  refine hK _ _ ?_; clear hK
  (try simp only [Act.put, List.setIfInBounds_toArray, List.set_cons_zero, List.set_cons_succ])
  refine wpList_yield rfl _ (exec_move _ rfl) ?_
  simp only [Act.put, Act.eval, Array.getD_eq_getD_getElem?, List.getElem?_toArray, List.getElem?_cons_succ, List.getElem?_cons_zero, Option.getD_some, List.setIfInBounds_toArray, List.set_cons_zero, List.set_cons_succ]
  refine wpList_yield rfl ?vp7_7 ?yp7_7 ?_
  case yp7_7 => go_simp; try with_reducible rfl
  simp only [Act.put, List.setIfInBounds_toArray, List.set_cons_zero, List.set_cons_succ]
  refine wpList_yield rfl ?vp8_8 ?yp8_8 ?_
  case yp8_8 => go_simp; try with_reducible rfl
  simp only [Act.put, List.setIfInBounds_toArray, List.set_cons_zero, List.set_cons_succ]
  refine wpList_yield rfl _ (exec_assign _ rfl) ?_
  simp only [Act.put, Act.eval, Array.getD_eq_getD_getElem?, List.getElem?_toArray, List.getElem?_cons_succ, List.getElem?_cons_zero, Option.getD_some, List.setIfInBounds_toArray, List.set_cons_zero, List.set_cons_succ]
  refine wpList_yield rfl _ (exec_assign _ rfl) ?_
  simp only [Act.put, Act.eval, Array.getD_eq_getD_getElem?, List.getElem?_toArray, List.getElem?_cons_succ, List.getElem?_cons_zero, Option.getD_some, List.setIfInBounds_toArray, List.set_cons_zero, List.set_cons_succ]
  refine wpList_nil ?_
  go_upto_region 5 with fail
  refine wp_region_lit ?_
  refine wpList_yield rfl _ (exec_move _ rfl) ?_
  simp only [Act.put, Act.eval, Array.getD_eq_getD_getElem?, List.getElem?_toArray, List.getElem?_cons_succ, List.getElem?_cons_zero, Option.getD_some, List.setIfInBounds_toArray, List.set_cons_zero, List.set_cons_succ]
  refine wpList_yield rfl _ (exec_c3 _ rfl w.heap.size rfl) ?_
  simp only [Act.put, List.setIfInBounds_toArray, List.set_cons_zero, List.set_cons_succ]
  refine wpList_yield rfl _ (exec_load_at at25w _ rfl w.heap.size 3 141 cs (bvs r) rfl b5 HR.out (by rw [bvs_length]; exact HL.out)) ?_
  simp only [Act.put, List.setIfInBounds_toArray, List.set_cons_zero, List.set_cons_succ]
  refine wpList_plain rfl fun K hK => ?_; go_simp
  with_reducible refine (CF _ hB5).out.mono ?_
  rintro e w6 ⟨rfl, hw6⟩
  refine hK _ _ ?_; clear hK
  (try simp only [Act.put, List.setIfInBounds_toArray, List.set_cons_zero, List.set_cons_succ])
  refine wpList_yield rfl _ (exec_move _ rfl) ?_
  simp only [Act.put, Act.eval, Array.getD_eq_getD_getElem?, List.getElem?_toArray, List.getElem?_cons_succ, List.getElem?_cons_zero, Option.getD_some, List.setIfInBounds_toArray, List.set_cons_zero, List.set_cons_succ]
  refine wpList_yield rfl ?vp9_5 ?yp9_5 ?_
  case yp9_5 => go_simp; try with_reducible rfl
  simp only [Act.put, List.setIfInBounds_toArray, List.set_cons_zero, List.set_cons_succ]
  refine wpList_yield rfl ?vp10_6 ?yp10_6 ?_
  case yp10_6 => go_simp; try with_reducible rfl
  simp only [Act.put, List.setIfInBounds_toArray, List.set_cons_zero, List.set_cons_succ]
  refine wpList_yield rfl _ (exec_assign _ rfl) ?_
  simp only [Act.put, Act.eval, Array.getD_eq_getD_getElem?, List.getElem?_toArray, List.getElem?_cons_succ, List.getElem?_cons_zero, Option.getD_some, List.setIfInBounds_toArray, List.set_cons_zero, List.set_cons_succ]
  refine wpList_yield rfl _ (exec_assign _ rfl) ?_
  simp only [Act.put, Act.eval, Array.getD_eq_getD_getElem?, List.getElem?_toArray, List.getElem?_cons_succ, List.getElem?_cons_zero, Option.getD_some, List.setIfInBounds_toArray, List.set_cons_zero, List.set_cons_succ]
  refine wpList_nil ?_
  have hB6 := bthen hB5 hw6 hB5.size
  have d6 := d5.below hw6 d5.lt
  have e6 := hb5.below hw6 hb5.lt
  clear hB5 d5 hb5 b5 hw6 c5
  go_upto_region 6 with fail
  refine wp_region_lit ?_
  refine wpList_yield rfl _ (exec_build _ rfl (bvs (zb 32)).toArray (by kernel_rfl)) ?_
  simp only [Act.put, List.setIfInBounds_toArray, List.set_cons_zero, List.set_cons_succ]
  refine wpList_plain rfl fun K hK => ?_; go_simp
  refine hK _ _ ?_; clear hK
  (try simp only [Act.put, List.setIfInBounds_toArray, List.set_cons_zero, List.set_cons_succ])
  refine wpList_store_at at25w.i rfl (.tmp 15) (.tmp 53) rfl w6.heap.size 0 25 (bvs (zb 32)) (bvs (zb 32)) rfl rfl (z25 w6).out (by rw [bvs_length, zb_length]) (by rw [bvs_length, zb_length]; omega) (bvs_one _) ?_
  intro w7 hb7 hg7 hs7
  (try simp only [Act.put, List.setIfInBounds_toArray, List.set_cons_zero, List.set_cons_succ])
  refine wpList_nil ?_
  rw [splice_all _ _ rfl] at hb7
  have hB7 : Below w.heap.size w w7 := (hB6.alloc hB6.size _).grown hg7 (by have := hB6.size; simp; omega) (by intro k hk; cases hk; exact hB6.size)
  have d7 := (d6.alloc (.cells (bvs (zb 32)).toArray 25)).grown hg7 (by intro e; injection e with e; have := d6.lt; omega)
  have e7 := (e6.alloc (.cells (bvs (zb 32)).toArray 25)).grown hg7 (by intro e; injection e with e; have := e6.lt; omega)
  clear hB6 d6 e6 hg7 hs7
  generalize w6.heap.size = g15 at *
  go_upto_region 7 with fail
  refine rg_begin (Below w7.heap.size w7) [] [7, 26] [0, 1, 2, 3, 4, 5, 6, 7, 8, 9, 10, 11, 12, 13, 14, 15, 16, 17, 18, 19, 20, 21, 22, 23, 24, 25, 27, 26, 28, 29, 30, 31, 32, 33, 34, 35, 36, 37, 38, 39, 40, 41, 42, 43, 44, 45, 46] 0 mixed (by kernel_rfl) (fun _ _ _ _ e hh => ⟨e.symm.trans hh.1, hh.2⟩) ?_
  simp only [pick, List.map_cons, List.map_nil, List.getD_cons_zero, List.getD_cons_succ]
  have hS : (Below w7.heap.size w7) _ := (Below.refl _ _).drew
  refine rg_take (v := ?v11_0) rfl rfl hS ?y11_0 ?_
  case y11_0 => intro W hW; (try subst hW); go_simp; try with_reducible rfl
  simp only [Act.put, List.setIfInBounds_toArray, List.set_cons_zero, List.set_cons_succ]
  refine rg_take (v := ?v11_1) rfl rfl hS ?y11_1 ?_
  case y11_1 => intro W hW; (try subst hW); go_simp; try with_reducible rfl
  simp only [Act.put, List.setIfInBounds_toArray, List.set_cons_zero, List.set_cons_succ]
  refine rg_take (v := ?v11_2) rfl rfl hS ?y11_2 ?_
  case y11_2 => intro W hW; (try subst hW); go_simp; try with_reducible rfl
  simp only [Act.put, List.setIfInBounds_toArray, List.set_cons_zero, List.set_cons_succ]
  refine rg_take (v := ?v11_3) rfl rfl hS ?y11_3 ?_
  case y11_3 => intro W hW; (try subst hW); go_simp; try with_reducible rfl
  simp only [Act.put, List.setIfInBounds_toArray, List.set_cons_zero, List.set_cons_succ]
  refine rg_take rfl rfl hS (fun W hW => exec_len132 _ rfl none 0 0 rfl) ?_
  simp only [Act.put, List.setIfInBounds_toArray, List.set_cons_zero, List.set_cons_succ]
  refine rg_take (v := ?v11_5) rfl rfl hS ?y11_5 ?_
  case y11_5 => intro W hW; (try subst hW); go_simp; try with_reducible rfl
  simp only [Act.put, List.setIfInBounds_toArray, List.set_cons_zero, List.set_cons_succ]
  refine rg_take (v := ?v11_6) rfl rfl hS ?y11_6 ?_
  case y11_6 => intro W hW; (try subst hW); go_simp; try with_reducible rfl
  simp only [Act.put, List.setIfInBounds_toArray, List.set_cons_zero, List.set_cons_succ]
  refine rg_one rfl rfl ?_; intro K hK; go_simp
  with_reducible refine (CL _ (bthen hB7 hS hB7.size)).out.mono ?_
  rintro e _ ⟨rfl, rfl⟩
  refine hK _ _ (fun _ => hS) ?_; clear hK
  refine rg_take (v := ?v11_8) rfl rfl hS ?y11_8 ?_
  case y11_8 => intro W hW; (try subst hW); go_simp; try with_reducible rfl
  simp only [Act.put, List.setIfInBounds_toArray, List.set_cons_zero, List.set_cons_succ]
  refine rg_take (v := ?v11_9) rfl rfl hS ?y11_9 ?_
  case y11_9 => intro W hW; (try subst hW); go_simp; try with_reducible rfl
  simp only [Act.put, List.setIfInBounds_toArray, List.set_cons_zero, List.set_cons_succ]
  refine rg_take (v := ?v11_10) rfl rfl hS ?y11_10 ?_
  case y11_10 => intro W hW; (try subst hW); go_simp; try with_reducible rfl
  simp only [Act.put, List.setIfInBounds_toArray, List.set_cons_zero, List.set_cons_succ]
  refine rg_take (v := ?v11_11) rfl rfl hS ?y11_11 ?_
  case y11_11 => intro W hW; (try subst hW); go_simp; try with_reducible rfl
  simp only [Act.put, List.setIfInBounds_toArray, List.set_cons_zero, List.set_cons_succ]
  refine rg_take (v := ?v11_12) rfl rfl hS ?y11_12 ?_
  case y11_12 => intro W hW; (try subst hW); go_simp; try with_reducible rfl
  simp only [Act.put, List.setIfInBounds_toArray, List.set_cons_zero, List.set_cons_succ]
  refine rg_take (v := ?v11_13) rfl rfl hS ?y11_13 ?_
  case y11_13 => intro W hW; (try subst hW); go_simp; try with_reducible rfl
  simp only [Act.put, List.setIfInBounds_toArray, List.set_cons_zero, List.set_cons_succ]
  refine rg_take (v := ?v11_14) rfl rfl hS ?y11_14 ?_
  case y11_14 => intro W hW; (try subst hW); go_simp; try with_reducible rfl
  simp only [Act.put, List.setIfInBounds_toArray, List.set_cons_zero, List.set_cons_succ]
  refine rg_take rfl rfl hS (fun W hW => exec_load_agg at25w (.tmp 7) rfl g7 25 (bvs (zb 32)) rfl (d7.below hW d7.lt) (by rw [bvs_length, zb_length])) ?_
  simp only [Act.put, List.setIfInBounds_toArray, List.set_cons_zero, List.set_cons_succ]
  refine rg_take rfl rfl hS (fun W hW => exec_load_agg at25w (.tmp 15) rfl g15 25 (bvs (zb 32)) rfl (hb7.below hW hb7.lt) (by rw [bvs_length, zb_length])) ?_
  simp only [Act.put, List.setIfInBounds_toArray, List.set_cons_zero, List.set_cons_succ]
  refine rg_take rfl rfl hS (fun W hW => exec_eql_same ab25 _ _ rfl (zb 32) rfl rfl (zb_length 32)) ?_
  simp only [Act.put, List.setIfInBounds_toArray, List.set_cons_zero, List.set_cons_succ]
  refine rg_take (v := ?v11_18) rfl rfl hS ?y11_18 ?_
  case y11_18 => intro W hW; (try subst hW); go_simp; try with_reducible rfl
  simp only [Act.put, List.setIfInBounds_toArray, List.set_cons_zero, List.set_cons_succ]
  refine rg_take (v := ?v11_19) rfl rfl hS ?y11_19 ?_
  case y11_19 => intro W hW; (try subst hW); go_simp; try with_reducible rfl
  simp only [Act.put, List.setIfInBounds_toArray, List.set_cons_zero, List.set_cons_succ]
  refine rg_take rfl rfl hS (fun W hW => exec_load_agg at25w (.tmp 9) rfl g9 25 (bvs (zb 32)) rfl (e7.below hW e7.lt) (by rw [bvs_length, zb_length])) ?_
  simp only [Act.put, List.setIfInBounds_toArray, List.set_cons_zero, List.set_cons_succ]
  refine rg_take rfl rfl hS (fun W hW => exec_load_agg at25w (.tmp 15) rfl g15 25 (bvs (zb 32)) rfl (hb7.below hW hb7.lt) (by rw [bvs_length, zb_length])) ?_
  simp only [Act.put, List.setIfInBounds_toArray, List.set_cons_zero, List.set_cons_succ]
  refine rg_take rfl rfl hS (fun W hW => exec_eql_same ab25 _ _ rfl (zb 32) rfl rfl (zb_length 32)) ?_
  simp only [Act.put, List.setIfInBounds_toArray, List.set_cons_zero, List.set_cons_succ]
  refine rg_take (v := ?v11_23) rfl rfl hS ?y11_23 ?_
  case y11_23 => intro W hW; (try subst hW); go_simp; try with_reducible rfl
  simp only [Act.put, List.setIfInBounds_toArray, List.set_cons_zero, List.set_cons_succ]
  refine rg_take (v := ?v11_24) rfl rfl hS ?y11_24 ?_
  case y11_24 => intro W hW; (try subst hW); go_simp; try with_reducible rfl
  simp only [Act.put, List.setIfInBounds_toArray, List.set_cons_zero, List.set_cons_succ]
  refine rg_take (v := ?v11_25) rfl rfl hS ?y11_25 ?_
  case y11_25 => intro W hW; (try subst hW); go_simp; try with_reducible rfl
  simp only [Act.put, List.setIfInBounds_toArray, List.set_cons_zero, List.set_cons_succ]
  refine rg_take rfl rfl hS (fun W hW => exec_load_agg at25w (.tmp 15) rfl g15 25 (bvs (zb 32)) rfl (hb7.below hW hb7.lt) (by rw [bvs_length, zb_length])) ?_
  simp only [Act.put, List.setIfInBounds_toArray, List.set_cons_zero, List.set_cons_succ]
  refine rg_one rfl rfl ?_; intro K hK; go_simp
  with_reducible refine (CD _ (bthen hB7 hS hB7.size)).out.mono ?_
  rintro e w8 ⟨rfl, hw8⟩
  have hS1 : Below w7.heap.size w7 w8 := Below.trans hS (hw8.mono (Below.size hS))
  refine hK _ _ (fun _ => hS1) ?_; clear hK
  refine rg_take rfl rfl hS1 (fun W hW => exec_eql_same ab25 _ _ rfl (zb 32) rfl rfl (zb_length 32)) ?_
  simp only [Act.put, List.setIfInBounds_toArray, List.set_cons_zero, List.set_cons_succ]
  refine rg_take (v := ?v11_29) rfl rfl hS1 ?y11_29 ?_
  case y11_29 => intro W hW; (try subst hW); go_simp; try with_reducible rfl
  simp only [Act.put, List.setIfInBounds_toArray, List.set_cons_zero, List.set_cons_succ]
  refine rg_take (v := ?v11_30) rfl rfl hS1 ?y11_30 ?_
  case y11_30 => intro W hW; (try subst hW); go_simp; try with_reducible rfl
  simp only [Act.put, List.setIfInBounds_toArray, List.set_cons_zero, List.set_cons_succ]
  refine rg_take (v := ?v11_31) rfl rfl hS1 ?y11_31 ?_
  case y11_31 => intro W hW; (try subst hW); go_simp; try with_reducible rfl
  simp only [Act.put, List.setIfInBounds_toArray, List.set_cons_zero, List.set_cons_succ]
  refine rg_take (v := ?v11_32) rfl rfl hS1 ?y11_32 ?_
  case y11_32 => intro W hW; (try subst hW); go_simp; try with_reducible rfl
  simp only [Act.put, List.setIfInBounds_toArray, List.set_cons_zero, List.set_cons_succ]
  refine rg_take (v := ?v11_33) rfl rfl hS1 ?y11_33 ?_
  case y11_33 => intro W hW; (try subst hW); go_simp; try with_reducible rfl
  simp only [Act.put, List.setIfInBounds_toArray, List.set_cons_zero, List.set_cons_succ]
  refine rg_take (v := ?v11_34) rfl rfl hS1 ?y11_34 ?_
  case y11_34 => intro W hW; (try subst hW); go_simp; try with_reducible rfl
  simp only [Act.put, List.setIfInBounds_toArray, List.set_cons_zero, List.set_cons_succ]
  refine rg_take (v := ?v11_35) rfl rfl hS1 ?y11_35 ?_
  case y11_35 => intro W hW; (try subst hW); go_simp; try with_reducible rfl
  simp only [Act.put, List.setIfInBounds_toArray, List.set_cons_zero, List.set_cons_succ]
  refine rg_take (v := ?v11_36) rfl rfl hS1 ?y11_36 ?_
  case y11_36 => intro W hW; (try subst hW); go_simp; try with_reducible rfl
  simp only [Act.put, List.setIfInBounds_toArray, List.set_cons_zero, List.set_cons_succ]
  refine rg_take (v := ?v11_37) rfl rfl hS1 ?y11_37 ?_
  case y11_37 => intro W hW; (try subst hW); go_simp; try with_reducible rfl
  simp only [Act.put, List.setIfInBounds_toArray, List.set_cons_zero, List.set_cons_succ]
  refine rg_take (v := ?v11_38) rfl rfl hS1 ?y11_38 ?_
  case y11_38 => intro W hW; (try subst hW); go_simp; try with_reducible rfl
  simp only [Act.put, List.setIfInBounds_toArray, List.set_cons_zero, List.set_cons_succ]
  refine rg_take (v := ?v11_39) rfl rfl hS1 ?y11_39 ?_
  case y11_39 => intro W hW; (try subst hW); go_simp; try with_reducible rfl
  simp only [Act.put, List.setIfInBounds_toArray, List.set_cons_zero, List.set_cons_succ]
  refine rg_take (v := ?v11_40) rfl rfl hS1 ?y11_40 ?_
  case y11_40 => intro W hW; (try subst hW); go_simp; try with_reducible rfl
  simp only [Act.put, List.setIfInBounds_toArray, List.set_cons_zero, List.set_cons_succ]
  refine rg_take (v := ?v11_41) rfl rfl hS1 ?y11_41 ?_
  case y11_41 => intro W hW; (try subst hW); go_simp; try with_reducible rfl
  simp only [Act.put, List.setIfInBounds_toArray, List.set_cons_zero, List.set_cons_succ]
  refine rg_take (v := ?v11_42) rfl rfl hS1 ?y11_42 ?_
  case y11_42 => intro W hW; (try subst hW); go_simp; try with_reducible rfl
  simp only [Act.put, List.setIfInBounds_toArray, List.set_cons_zero, List.set_cons_succ]
  refine rg_take (v := ?v11_43) rfl rfl hS1 ?y11_43 ?_
  case y11_43 => intro W hW; (try subst hW); go_simp; try with_reducible rfl
  simp only [Act.put, List.setIfInBounds_toArray, List.set_cons_zero, List.set_cons_succ]
  refine rg_take (v := ?v11_44) rfl rfl hS1 ?y11_44 ?_
  case y11_44 => intro W hW; (try subst hW); go_simp; try with_reducible rfl
  simp only [Act.put, List.setIfInBounds_toArray, List.set_cons_zero, List.set_cons_succ]
  refine rg_take (v := ?v11_45) rfl rfl hS1 ?y11_45 ?_
  case y11_45 => intro W hW; (try subst hW); go_simp; try with_reducible rfl
  simp only [Act.put, List.setIfInBounds_toArray, List.set_cons_zero, List.set_cons_succ]
  refine rg_take (v := ?v11_46) rfl rfl hS1 ?y11_46 ?_
  case y11_46 => intro W hW; (try subst hW); go_simp; try with_reducible rfl
  simp only [Act.put, List.setIfInBounds_toArray, List.set_cons_zero, List.set_cons_succ]
  refine rg_done (by kernel_rfl) ?_
  go_wp2_with fail
  go_ret
  exact ⟨rfl, bthen hB7 hS1 hB7.size⟩
theorem at141 : AT Try.prog 141 35 := ⟨⟨_, Try.underlying141, rfl⟩, by kernel_rfl⟩
set_option maxRecDepth 100000 in
set_option maxHeartbeats 4000000 in
theorem chain_none (a : LAct) (ha : a.Ok) (w : World) : Calls Try.prog 20 #[.agg a.cs.toArray] w fun e w' => e = .returned (.bool true) ∧ Below w.heap.size w w' := by
  have hbz : Blk (w.alloc (.cells a.cs.toArray 141)) w.heap.size 141 a.cs := Blk.new _ _ _
  have hw0 : Below w.heap.size w (w.alloc (.cells a.cs.toArray 141)) := (Below.refl _ _).alloc (Nat.le_refl _) _
  have N1 := fun u => Lib.hid (none_any (.pointer none) u (fun v _ => lnone_nil v) a ha)
  have N2 := fun (g : Nat) (u : World) (hb : Blk u g 145 [.slice none 0 0, .slice none 0 0]) => Lib.hid (none_any (.pointer (some ⟨g, 0, none⟩)) u (fun v hv => lnone_empty g v (hb.below hv hb.lt)) a ha)
  have AW := fun u => Lib.hid (awake_any u)
  have HL := Lib.hid ha.len
  have z145 : ∀ u : World, Hid (Blk (u.alloc (.cells #[.slice none 0 0, .slice none 0 0] 145)) u.heap.size 145 [.slice none 0 0, .slice none 0 0]) := fun u => Lib.hid (Blk.new _ _ _)
  clear ha
  generalize a.cs = cs at *
  go_enter Try.func20, Try.ntmps20
  go_upto_region 1 with fail
  generalize hW : World.alloc w _ = w0
  have h3 : Blk w0 w.heap.size 141 cs ∧ Below w.heap.size w w0 := by rw [← hW]; exact ⟨hbz, hw0⟩
  clear hW hbz hw0
  obtain ⟨b0, hw0⟩ := h3
  refine wp_region_lit ?_
  refine wpList_yield rfl _ (exec_load_agg at141 (.tmp 1) rfl w.heap.size 141 cs rfl b0 HL.out) ?_
  simp only [Act.put, List.setIfInBounds_toArray, List.set_cons_zero, List.set_cons_succ]
  refine wpList_plain rfl fun K hK => ?_; go_simp
  with_reducible refine (N1 _).out.mono ?_
  rintro e w1 ⟨rfl, hw1⟩
  refine hK _ _ ?_; clear hK
  (try simp only [Act.put, List.setIfInBounds_toArray, List.set_cons_zero, List.set_cons_succ])
  refine wpList_yield rfl _ (exec_move _ rfl) ?_
  simp only [Act.put, Act.eval, Array.getD_eq_getD_getElem?, List.getElem?_toArray, List.getElem?_cons_succ, List.getElem?_cons_zero, Option.getD_some, List.setIfInBounds_toArray, List.set_cons_zero, List.set_cons_succ]
  refine wpList_yield_w rfl _ (exec_build _ rfl #[.slice none 0 0, .slice none 0 0] (by kernel_rfl)) ?_
  simp only [Act.put, List.setIfInBounds_toArray, List.set_cons_zero, List.set_cons_succ]
  refine wpList_plain_w rfl fun K hK => ?_; go_simp
  refine hK _ _ ?_; clear hK
  (try simp only [Act.put, List.setIfInBounds_toArray, List.set_cons_zero, List.set_cons_succ])
  refine wpList_yield_w rfl _ (exec_load_agg at141 (.tmp 1) rfl w.heap.size 141 cs rfl ((b0.below hw1 b0.lt).alloc _) HL.out) ?_
  simp only [Act.put, List.setIfInBounds_toArray, List.set_cons_zero, List.set_cons_succ]
  refine wpList_plain_w rfl fun K hK => ?_; go_simp
  with_reducible refine (N2 _ _ (z145 w1).out).out.mono ?_
  rintro e w2 ⟨rfl, hw2⟩
  refine hK _ _ ?_; clear hK
  (try simp only [Act.put, List.setIfInBounds_toArray, List.set_cons_zero, List.set_cons_succ])
  refine wpList_yield rfl ?vp12_7 ?yp12_7 ?_
  case yp12_7 => go_simp; try with_reducible rfl
  simp only [Act.put, List.setIfInBounds_toArray, List.set_cons_zero, List.set_cons_succ]
  refine wpList_yield rfl _ (exec_move _ rfl) ?_
  simp only [Act.put, Act.eval, Array.getD_eq_getD_getElem?, List.getElem?_toArray, List.getElem?_cons_succ, List.getElem?_cons_zero, Option.getD_some, List.setIfInBounds_toArray, List.set_cons_zero, List.set_cons_succ]
  refine wpList_plain_w rfl fun K hK => ?_; go_simp
  with_reducible refine (AW _).out.mono ?_
  rintro e w3 ⟨rfl, hw3⟩
  refine hK _ _ ?_; clear hK
  (try simp only [Act.put, List.setIfInBounds_toArray, List.set_cons_zero, List.set_cons_succ])
  refine wpList_yield rfl ?vp13_10 ?yp13_10 ?_
  case yp13_10 => go_simp; try with_reducible rfl
  simp only [Act.put, List.setIfInBounds_toArray, List.set_cons_zero, List.set_cons_succ]
  refine wpList_yield rfl _ (exec_assign _ rfl) ?_
  simp only [Act.put, Act.eval, Array.getD_eq_getD_getElem?, List.getElem?_toArray, List.getElem?_cons_succ, List.getElem?_cons_zero, Option.getD_some, List.setIfInBounds_toArray, List.set_cons_zero, List.set_cons_succ]
  refine wpList_nil ?_
  go_wp2_with fail
  go_ret
  have hB1 := bthen hw0 hw1 hw0.size
  have hB2 := hB1.alloc hB1.size (.cells #[.slice none 0 0, .slice none 0 0] 145)
  exact ⟨rfl, bthen (bthen hB2 hw2 hB2.size) hw3 (bthen hB2 hw2 hB2.size).size⟩
end Go.Proofs.Ytehbahobkgoapaa
