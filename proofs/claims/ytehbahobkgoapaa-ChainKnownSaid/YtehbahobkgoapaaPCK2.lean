import Derived.Laws.BitsAllLaws
import Derived.Deep.Cut
import Derived.Deep.CutRange
import Derived.Test.YtehbahobkgoapaaPCK1
namespace Go.Proofs.Ytehbahobkgoapaa
open Go Go.RowKit
set_option linter.unusedSimpArgs false
set_option linter.unusedVariables false
theorem stb_nil (b : List UInt8) (h : b.length = 64) : StB [] b := ⟨h, rfl⟩
set_option maxRecDepth 100000 in
set_option maxHeartbeats 1000000 in
theorem new_state (w : World) : Calls Try.prog 83 #[] w fun e w' => ∃ g, e = .returned (.pointer (some ⟨g, 0, none⟩)) ∧ w.heap.size ≤ g ∧ St w' g [] ∧ Below w.heap.size w w' := by
  have C := fun u => Lib.hid (begin_any u)
  unfold arrW at C
  go_enter Try.func83, Try.ntmps83
  go_upto_region 1 with fail
  refine wp_region_lit ?_
  refine wpList_plain rfl fun K hK => ?_; go_simp
  with_reducible refine (C _).out.mono ?_
  rintro e w1 ⟨rfl, hw1⟩
  refine hK _ _ ?_; clear hK
  (try simp only [Act.put, List.setIfInBounds_toArray, List.set_cons_zero, List.set_cons_succ])
  refine wpList_yield rfl _ (exec_build _ rfl (stC shaH (List.replicate 64 0) 0 0).toArray (by kernel_rfl)) ?_
  simp only [Act.put, List.setIfInBounds_toArray, List.set_cons_zero, List.set_cons_succ]
  refine wpList_plain rfl fun K hK => ?_; go_simp
  refine hK _ _ ?_; clear hK
  (try simp only [Act.put, List.setIfInBounds_toArray, List.set_cons_zero, List.set_cons_succ])
  refine wpList_yield rfl _ (exec_assign _ rfl) ?_
  simp only [Act.put, Act.eval, Array.getD_eq_getD_getElem?, List.getElem?_toArray, List.getElem?_cons_succ, List.getElem?_cons_zero, Option.getD_some, List.setIfInBounds_toArray, List.set_cons_zero, List.set_cons_succ]
  refine wpList_nil ?_
  go_wp2_with fail
  go_ret
  refine ⟨w1.heap.size, rfl, hw1.size, ⟨List.replicate 64 0, stb_nil _ (by simp), ?_⟩, hw1.trans (((Below.refl _ _).alloc (Nat.le_refl _) _).mono hw1.size)⟩
  exact Blk.new w1 128 (stC shaH (List.replicate 64 0) 0 0)
set_option maxRecDepth 100000 in
set_option maxHeartbeats 1000000 in
theorem none_no (g : Nat) (w : World) (hc : w.cell? ⟨g, 0, none⟩ = some (.bool true)) : Calls Try.prog 142 #[.pointer (some ⟨g, 0, none⟩)] w fun e w' => e = .returned (.bool false) ∧ w = w' := by
  go_enter Try.func142, Try.ntmps142
  go_wp2
  go_ret
  exact ⟨rfl, rfl⟩
theorem exec_load3 {w : World} {a : Act} {o : Oper} (x : Operand) (ho : o.op = .load 3 x) (ad : Addr) (v : Value) (hx : a.eval x = .pointer (some ad)) (hc : w.cell? ad = some v) : (execOp a.eval o).run Try.prog w = .ok (.value v) w := by
  obtain ⟨d, hu, hd⟩ := w3
  exact exec_load_one hu hd x ho ad v hx hc
theorem Blk.at0 {w : World} {g : Nat} {h : List Nat} {b : List UInt8} {n all : Nat} (hb : Blk w g 128 (stC h b n all)) : w.cell? ⟨g, 0, none⟩ = some (.bool true) := by rw [hb.cell]; rfl
theorem Blk.atN {w : World} {g : Nat} {h : List Nat} {b : List UInt8} {n all : Nat} (hb : Blk w g 128 (stC h b n all)) (hl : h.length = 8) (hb' : b.length = 64) : w.cell? ⟨g, 73, none⟩ = some (.int .i64 (n : Int)) := by rw [hb.cell]; exact stC_n hl hb'
theorem Blk.atA {w : World} {g : Nat} {h : List Nat} {b : List UInt8} {n all : Nat} (hb : Blk w g 128 (stC h b n all)) (hl : h.length = 8) (hb' : b.length = 64) : w.cell? ⟨g, 74, none⟩ = some (.int .i64 (all : Int)) := by rw [hb.cell]; exact stC_all hl hb'
def zst : List Value := (stC (zw 8) (zb 64) 0 0).set 0 (.bool false)
theorem zst_length : zst.length = 75 := by unfold zst; rw [List.length_set]; exact stC_length rfl rfl
theorem zero128 : Try.zeroCells128 = zst.toArray := by kernel_rfl
theorem wp_copy_mid {P : Program} {T E S : TypeId} {w : World} {o : Oper} {a : Act} {Q : Exit → Act → World → Prop} {K : Act → World → Prop} (B : BT P T E S) (d s : Operand) (ho : o.op = .call { callee := .builtin .copy, args := #[d, s], argTypes := #[T, T] })
    (g off dLen dCap : Nat) (ad : Addr) (n sCap : Nat) (hd : a.eval d = .slice (some ⟨g, off, none⟩) dLen dCap) (hs : a.eval s = .slice (some ad) n sCap)
    (t : TypeId) (cs : List Value) (l : List UInt8) (hg : Blk w g t cs) (hr : Rd w (some ad) (bvs l)) (hn : l.length = n) (hfit : off + dLen ≤ cs.length) (k : Nat) (hk : Nat.min n dLen = k)
    (h : ∀ w', Blk w' g t (splice cs off (bvs (l.take dLen))) → w.grownBy w' (some g) → w'.heap.size = w.heap.size → K (a.put o.dst (.int .i64 (k : Int))) w') :
    o.wp P a w K Q := by
  obtain ⟨i, hi, hz, hsz, hb⟩ := info_parts B.i
  subst hn
  subst hk
  have hlen : (bvs (l.take dLen)).length = Nat.min l.length dLen := by
    show _ = min l.length dLen
    simp [bvs]; omega
  have hsrc : ∀ j u, (bvs (l.take dLen))[j]? = some u → w.cell? (ad.add j) = some u := by
    intro j u hu
    by_cases h0 : 0 < (bvs l).length
    · obtain ⟨ad', e, hc⟩ := hr h0
      cases e
      apply hc
      have hj : j < (l.take dLen).length := by
        have := (List.getElem?_eq_some_iff.1 hu).1
        rwa [bvs_length] at this
      rw [bvs_get, List.getElem?_take_of_lt (by simp at hj; omega)] at hu
      rw [bvs_get, hu]
    · have : l = [] := List.eq_nil_of_length_eq_zero (by simpa [bvs] using h0)
      subst this
      simp [bvs] at hu
  have hfl : off + (bvs (l.take dLen)).length ≤ cs.length := by
    rw [hlen]; have : Nat.min l.length dLen ≤ dLen := Nat.min_le_right _ _; omega
  have hrun := run_copy_row (P := P) w T T o.type E g off dLen dCap ad l.length sCap cs.toArray t (bvs (l.take dLen)) B.t (by rw [hi]; simp [hsz]) hg hlen hsrc (by simpa using hfl) (bvs_one _)
  unfold Oper.wp
  simp [execOp, ho, resolve, invoke, builtin, hd, hs, hrun, Result.andThen]
  have := h _ (hg.row (splice cs off (bvs (l.take dLen)))) (grownBy_setRow w g _) (by simp)
  rw [← hlen] at this
  show K (a.put o.dst _) _
  simpa [goInt, splice, bvs_length] using this
def Any (_ : World) : Prop := True
theorem any_at (w : World) : Any w := trivial
section
variable {P : Program} {ops : Array Oper} {Q : Exit → Act → World → Prop} {S' : World → Prop}
theorem wpF_turn {F F' : Nat → Bool} : ∀ (fuel : Nat) (listed : Array Bool) (a : Act) (w : World), wpF P ops Q S' F' fuel listed a w → wpF P ops Q Any F fuel listed a w
  | 0, _, _, _, h => h
  | fuel + 1, _, _, _, h => ⟨h.1, fun i hi => wpOp_mono (fun a' w' h' => ⟨fun _ => trivial, wpF_turn fuel _ a' w' h'.2⟩) (h.2 i hi)⟩
/-- From here on a condition of its own. -/
theorem rg_turn {F pl : List Nat} {g : Nat} {dn : List Nat} {rest : List (Nat × Oper)} {a : Act} {w : World} (S' : World → Prop) (F' : List Nat) (hp : planned ops F' pl dn (rest.map (·.1)) = true)
    (h : wpT P ops Q S' F' pl g dn rest a w) : wpT P ops Q Any F pl g dn rest a w := by
  intro hr _ hQ
  exact wpF_turn _ _ _ _ (h hr hp hQ)
end
theorem wp_pure {P : Program} {w : World} {o : Oper} {a : Act} {Q : Exit → Act → World → Prop} {K : Act → World → Prop} {v : Value} (hr : (execOp a.eval o).run P w = .ok (.value v) w) (h : K (a.put o.dst v) w) : o.wp P a w K Q := by
  unfold Oper.wp
  rw [hr]
  exact h
theorem exec_len24 {w : World} {a : Act} {o : Oper} (x : Operand) (ho : o.op = .call { callee := .builtin .len, args := #[x], argTypes := #[24] }) (A : Option Addr) (n c : Nat) (hx : a.eval x = .slice A n c) :
    (execOp a.eval o).run Try.prog w = .ok (.value (.int .i64 (n : Int))) w := by
  unfold execOp
  simp only [ho, resolve, invoke, builtin, Sem.run_bind, Sem.run_pure, Result.andThen_ok, List.map_toArray, List.map_cons, List.map_nil, hx]
  go_simp
/-- While bytes are written: d is written, r is left. -/
def WrS (g M : Nat) (m x : List UInt8) (w : World) (v : Value) (wr : World) : Prop :=
  ∃ (d r b' : List UInt8) (A' : Option Addr) (n' c' : Nat), Hid (d ++ r = x) ∧ v = .slice A' n' c' ∧ r.length = n' ∧ (0 < n' → Lft (· = g) wr A' n' c' r) ∧ StB (m ++ d) b' ∧ Blk wr g 128 (stC (hOf (m ++ d)) b' ((m ++ d).length % 64) M) ∧ Fr (· = g) w wr
theorem rd_lft {w0 w : World} {A : Option Addr} {n c g : Nat} {x : List UInt8} (hr : Rd w0 A (bvs x)) (hl : x.length = n) (hcap : n ≤ c) (hmax : c ≤ maxLen) (h0 : 0 < n) (hb : Below w0.heap.size w0 w) (hg : w0.heap.size ≤ g) : Lft (· = g) w A n c x := by
  refine ⟨hl, hcap, hmax, hr.below hb, ?_⟩
  intro ad had e
  obtain ⟨ad', h1, h2⟩ := hr.at_ (k := 0) (by rw [bvs_length]; omega)
  rw [had] at h1
  cases h1
  have h3 := World.block_lt_of_cell? _ _ h2
  have h4 : (ad.add 0).block = ad.block := by unfold Addr.add; split <;> rfl
  rw [h4] at h3
  have h5 : ad.block = g := e
  omega
set_option maxRecDepth 100000 in
set_option maxHeartbeats 4000000 in
theorem write_state (g : Nat) (m : List UInt8) (A : Option Addr) (n c : Nat) (x : List UInt8) (w : World) (h : St w g m) (hl : x.length = n) (hx : 0 < n → Lft (· = g) w A n c x) (hb : m.length + n ≤ 4611686018427387904) :
    Calls Try.prog 84 #[.pointer (some ⟨g, 0, none⟩), .slice A n c] w fun e w' => e = .returned (.int .i64 (n : Int)) ∧ St w' g (m ++ x) ∧ Fr (· = g) w w' := by
  obtain ⟨b, hs, hblk⟩ := h
  have C := Lib.hid (none_no g w hblk.at0)
  have HHL := hOf_length m
  have hA := Lib.hid (hblk.atA HHL hs.1)
  have hset := hblk.set_ 74 (.int .i64 ((m.length + n : Nat) : Int))
  rw [stC_set_all HHL hs.1] at hset
  have hlen := Lib.hid (stC_length HHL hs.1 (n := m.length % 64) (all := m.length))
  have HX := Lib.hid hl
  have HM : Hid ((m ++ x).length = m.length + n) := Lib.hid (by rw [List.length_append, hl])
  have HS := Lib.hid hs
  have hfr : Fr (· = g) w (w.setCell ⟨g, 74, none⟩ (.int .i64 ((m.length + n : Nat) : Int))) := Fr.setCell (p := ⟨g, 74, none⟩) (Fr.refl (· = g) w) (.inl rfl) _
  obtain ⟨M, hMd⟩ : ∃ M, m.length + n = M := ⟨_, rfl⟩
  rw [hMd] at hset HM hb hfr
  have hM2 : (m.length : Int) + (n : Int) = (M : Int) := by omega
  have HM2 := Lib.hid hM2
  clear hMd hM2 hs hl
  go_enter Try.func84, Try.ntmps84
  go_upto_region 3 with (first
    | (go_at_call 142; with_reducible refine C.out.mono ?_; rintro e w1 ⟨rfl, rfl⟩))
  refine wp_region_lit ?_
  refine wpList_yield rfl _ (exec_move _ rfl) ?_
  simp only [Act.put, Act.eval, Array.getD_eq_getD_getElem?, List.getElem?_toArray, List.getElem?_cons_succ, List.getElem?_cons_zero, Option.getD_some, List.setIfInBounds_toArray, List.set_cons_zero, List.set_cons_succ]
  refine wpList_yield rfl _ (exec_nilck _ rfl _ rfl) ?_
  simp only [Act.put, List.setIfInBounds_toArray, List.set_cons_zero, List.set_cons_succ]
  refine wpList_yield rfl _ (exec_f4 _ rfl g rfl) ?_
  simp only [Act.put, List.setIfInBounds_toArray, List.set_cons_zero, List.set_cons_succ]
  refine wpList_yield rfl _ (exec_load3 _ rfl _ _ rfl hA.out) ?_
  simp only [Act.put, List.setIfInBounds_toArray, List.set_cons_zero, List.set_cons_succ]
  refine wpList_yield rfl _ (exec_move _ rfl) ?_
  simp only [Act.put, Act.eval, Array.getD_eq_getD_getElem?, List.getElem?_toArray, List.getElem?_cons_succ, List.getElem?_cons_zero, Option.getD_some, List.setIfInBounds_toArray, List.set_cons_zero, List.set_cons_succ]
  refine wpList_yield rfl _ (exec_len24 _ rfl A n c rfl) ?_
  simp only [Act.put, List.setIfInBounds_toArray, List.set_cons_zero, List.set_cons_succ]
  refine wpList_yield rfl _ (exec_iadd _ _ rfl _ _ ((M : Nat) : Int) rfl rfl HM2.out (by omega)) ?_
  simp only [Act.put, List.setIfInBounds_toArray, List.set_cons_zero, List.set_cons_succ]
  refine wpList_yield rfl _ (exec_nilck _ rfl _ rfl) ?_
  simp only [Act.put, List.setIfInBounds_toArray, List.set_cons_zero, List.set_cons_succ]
  refine wpList_yield rfl _ (exec_f4 _ rfl g rfl) ?_
  simp only [Act.put, List.setIfInBounds_toArray, List.set_cons_zero, List.set_cons_succ]
  refine wpList_store_one rfl one3 (.tmp 17) (.tmp 15) rfl g 74 128 _ (.int .i64 ((M : Nat) : Int)) rfl rfl rfl hblk (by rw [hlen.out]; decide) ?_
  (try simp only [Act.put, List.setIfInBounds_toArray, List.set_cons_zero, List.set_cons_succ])
  refine wpList_nil ?_
  clear hblk hA hlen
  generalize World.setCell w _ _ = w1 at *
  go_wp2_with fail
  go_loopw [5] (fun v wr => WrS g M m x w v wr) (fun v _ => sliceLen v)
  case atStart => exact ⟨[], x, b, A, n, c, rfl, rfl, HX.out, fun h0 => (hx h0).fr hfr (fun k e => e), by rw [List.append_nil]; exact HS.out, by rw [List.append_nil]; exact hset, hfr⟩
  case round =>
    clear hset hfr
    obtain ⟨d, r, b', A', n', c', hdr, rfl, hL, hr, hsb, hblk, hfr⟩ := hrel
    obtain ⟨N, hN⟩ : ∃ N, (m ++ d).length % 64 = N := ⟨_, rfl⟩
    have hN64 : N < 64 := by omega
    have HN := Lib.hid hN
    rw [hN] at hblk
    clear hN
    have HHD := hOf_length (m ++ d)
    by_cases h0 : 0 < n'
    · have hr := hr h0
      have hz0 : (0 : Int) < (n' : Int) := by omega
      obtain ⟨ad, rfl⟩ : ∃ ad, A' = some ad := by
        obtain ⟨ad, h, _⟩ := hr.rd.at_ (k := 0) (by rw [bvs_length]; omega)
        exact ⟨ad, h⟩
      have hcn := Lib.hid (hblk.atN HHD hsb.1)
      obtain ⟨k, hk⟩ : ∃ k, Nat.min n' (64 - N) = k := ⟨_, rfl⟩
      have hk' : min n' (64 - N) = k := hk
      have hkn : k ≤ n' := by omega
      have hkN : N + k ≤ 64 := by omega
      have hk0 : 0 < k := by omega
      have hkc : N + k < 64 → k = n' := by omega
      have HK := Lib.hid hk
      clear hk
      obtain ⟨y, hy⟩ : ∃ y, y = r.take (64 - N) := ⟨_, rfl⟩
      have hyk : y = r.take k := by
        rw [hy]
        by_cases hc : n' ≤ 64 - N
        · rw [List.take_of_length_le (by omega), List.take_of_length_le (by omega)]
        · rw [show 64 - N = k by omega]
      have hyl : y.length = k := by rw [hyk, List.length_take]; omega
      have hcut := hr.cut k hkn
      have hdr' : Hid ((d ++ y) ++ r.drop k = x) := Lib.hid (by rw [List.append_assoc, hyk, List.take_append_drop]; exact hdr.out)
      have hput : splice (stC (hOf (m ++ d)) b' N M) (9 + N) (bvs y) = stC (hOf (m ++ d)) (splice b' N y) N M := stC_put_b HHD hsb.1 N y (by omega)
      have hbl : (splice b' N y).length = 64 := by rw [splice_bytes_length _ _ _ (by rw [hsb.1]; omega)]; exact hsb.1
      have hset : (stC (hOf (m ++ d)) (splice b' N y) N M).set 73 (.int .i64 ((N + k : Nat) : Int)) = stC (hOf (m ++ d)) (splice b' N y) (N + k) M := stC_set_n HHD hbl (N + k)
      have HPUT := Lib.hid hput
      have HSET := Lib.hid hset
      have HY := Lib.hid hy
      have HYL := Lib.hid hyl
      have HBL := Lib.hid hbl
      have hfew := Lib.hid (fun (hlt : N + k < 64) => stb_few hsb y (by rw [HN.out, hyl]; exact hlt))
      have hful := Lib.hid (fun (hlt : N + k = 64) => stb_full hsb y (by rw [HN.out, hyl]; exact hlt))
      rw [HN.out] at hfew hful
      have hcl := Lib.hid (stC_length HHD hsb.1 (n := N) (all := M))
      have hcl2 := Lib.hid (stC_length HHD hbl (n := N) (all := M))
      clear hy hyk hyl hput hset hk' hL hbl
      go_upto_region 6 with fail
      refine rg_begin (fun (W : World) => World.cell? W ⟨g, 73, none⟩ = some (Value.int IntKind.i64 (N : Int))) [] [9] [0, 1, 2, 3, 4, 5, 6, 7, 8, 9, 10] 0 mixed (by kernel_rfl) (fun _ _ _ _ e hh => ⟨e.symm.trans hh.1, hh.2⟩) ?_
      simp only [pick, List.map_cons, List.map_nil, List.getD_cons_zero, List.getD_cons_succ]
      have hS : (fun (W : World) => World.cell? W ⟨g, 73, none⟩ = some (Value.int IntKind.i64 (N : Int))) _ := hcn.out
      refine rg_take (v := ?v1_0) rfl rfl hS ?y1_0 ?_
      case y1_0 => intro W hW; (try subst hW); go_simp; try with_reducible rfl
      simp only [Act.put, List.setIfInBounds_toArray, List.set_cons_zero, List.set_cons_succ]
      refine rg_take rfl rfl hS (fun W hW => exec_nilck _ rfl _ rfl) ?_
      simp only [Act.put, List.setIfInBounds_toArray, List.set_cons_zero, List.set_cons_succ]
      refine rg_take rfl rfl hS (fun W hW => exec_f2 _ rfl g rfl) ?_
      simp only [Act.put, List.setIfInBounds_toArray, List.set_cons_zero, List.set_cons_succ]
      refine rg_take (v := ?v1_3) rfl rfl hS ?y1_3 ?_
      case y1_3 => intro W hW; (try subst hW); go_simp; try with_reducible rfl
      simp only [Act.put, List.setIfInBounds_toArray, List.set_cons_zero, List.set_cons_succ]
      refine rg_take rfl rfl hS (fun W hW => exec_nilck _ rfl _ rfl) ?_
      simp only [Act.put, List.setIfInBounds_toArray, List.set_cons_zero, List.set_cons_succ]
      refine rg_take rfl rfl hS (fun W hW => exec_f3 _ rfl g rfl) ?_
      simp only [Act.put, List.setIfInBounds_toArray, List.set_cons_zero, List.set_cons_succ]
      refine rg_take rfl rfl hS (fun W hW => exec_load3 _ rfl _ _ rfl hW) ?_
      simp only [Act.put, List.setIfInBounds_toArray, List.set_cons_zero, List.set_cons_succ]
      refine rg_take rfl rfl hS (fun W hW => exec_arr_from ia97 _ _ rfl g 9 N _ rfl rfl hN64) ?_
      simp only [Act.put, List.setIfInBounds_toArray, List.set_cons_zero, List.set_cons_succ]
      refine rg_take (v := ?v1_8) rfl rfl hS ?y1_8 ?_
      case y1_8 => intro W hW; (try subst hW); go_simp; try with_reducible rfl
      simp only [Act.put, List.setIfInBounds_toArray, List.set_cons_zero, List.set_cons_succ]
      refine rg_one rfl rfl ?_; intro K hK
      refine wp_copy_mid bt (.tmp 29) (.tmp 30) rfl g (9 + N) (64 - N) (64 - N) ad n' c' rfl rfl 128 _ r hblk.drew hr.rd.drew hr.len (by rw [hcl.out]; omega) k HK.out ?_
      intro w2 hb2 hg2 hs2
      rw [← HY.out, HPUT.out] at hb2
      have hS1 := hb2.atN HHD HBL.out
      refine hK _ _ (fun _ => hS1) ?_; clear hK
      simp only [Act.put, List.setIfInBounds_toArray, List.set_cons_zero, List.set_cons_succ]
      refine rg_take (v := ?v1_10) rfl rfl hS1 ?y1_10 ?_
      case y1_10 => intro W hW; (try subst hW); go_simp; try with_reducible rfl
      simp only [Act.put, List.setIfInBounds_toArray, List.set_cons_zero, List.set_cons_succ]
      refine rg_done (by kernel_rfl) ?_
      have hfr2 : Fr (· = g) w w2 := hfr.drew.grown hg2 (by intro k hk; cases hk; exact .inl rfl)
      have hr2 : Fr (· = g) wr w2 := (Fr.refl (· = g) wr).drew.grown hg2 (by intro k hk; cases hk; exact .inl rfl)
      have hc2 := Lib.hid (hb2.atN HHD HBL.out)
      clear hg2 hs2 hblk hfr hcn
      go_upto_region 7 with fail
      refine wp_region_lit ?_
      refine wpList_yield rfl _ (exec_move _ rfl) ?_
      simp only [Act.put, Act.eval, Array.getD_eq_getD_getElem?, List.getElem?_toArray, List.getElem?_cons_succ, List.getElem?_cons_zero, Option.getD_some, List.setIfInBounds_toArray, List.set_cons_zero, List.set_cons_succ]
      refine wpList_yield rfl _ (exec_move _ rfl) ?_
      simp only [Act.put, Act.eval, Array.getD_eq_getD_getElem?, List.getElem?_toArray, List.getElem?_cons_succ, List.getElem?_cons_zero, Option.getD_some, List.setIfInBounds_toArray, List.set_cons_zero, List.set_cons_succ]
      refine wpList_yield rfl _ (exec_slice_from st24 _ _ rfl (some ad) n' c' k .i64 rfl rfl hkn) ?_
      simp only [Act.put, List.setIfInBounds_toArray, List.set_cons_zero, List.set_cons_succ]
      refine wpList_yield rfl _ (exec_assign _ rfl) ?_
      simp only [Act.put, Act.eval, Array.getD_eq_getD_getElem?, List.getElem?_toArray, List.getElem?_cons_succ, List.getElem?_cons_zero, Option.getD_some, List.setIfInBounds_toArray, List.set_cons_zero, List.set_cons_succ]
      refine wpList_nil ?_
      go_upto_region 8 with fail
      have hNk : (N : Int) + (k : Int) = ((N + k : Nat) : Int) := by omega
      have HNk := Lib.hid hNk
      obtain ⟨N2, hN2⟩ : ∃ N2, N + k = N2 := ⟨_, rfl⟩
      have HN2 := Lib.hid hN2
      rw [hN2] at hNk HNk hkN hkc HSET hfew hful
      clear hN2 hNk
      refine wp_region_lit ?_
      refine wpList_yield rfl _ (exec_move _ rfl) ?_
      simp only [Act.put, Act.eval, Array.getD_eq_getD_getElem?, List.getElem?_toArray, List.getElem?_cons_succ, List.getElem?_cons_zero, Option.getD_some, List.setIfInBounds_toArray, List.set_cons_zero, List.set_cons_succ]
      refine wpList_yield rfl _ (exec_nilck _ rfl _ rfl) ?_
      simp only [Act.put, List.setIfInBounds_toArray, List.set_cons_zero, List.set_cons_succ]
      refine wpList_yield rfl _ (exec_f3 _ rfl g rfl) ?_
      simp only [Act.put, List.setIfInBounds_toArray, List.set_cons_zero, List.set_cons_succ]
      refine wpList_yield rfl _ (exec_load3 _ rfl _ _ rfl hc2.out) ?_
      simp only [Act.put, List.setIfInBounds_toArray, List.set_cons_zero, List.set_cons_succ]
      refine wpList_yield rfl _ (exec_move _ rfl) ?_
      simp only [Act.put, Act.eval, Array.getD_eq_getD_getElem?, List.getElem?_toArray, List.getElem?_cons_succ, List.getElem?_cons_zero, Option.getD_some, List.setIfInBounds_toArray, List.set_cons_zero, List.set_cons_succ]
      refine wpList_yield rfl _ (exec_iadd _ _ rfl _ _ ((N2 : Nat) : Int) rfl rfl HNk.out (by omega)) ?_
      simp only [Act.put, List.setIfInBounds_toArray, List.set_cons_zero, List.set_cons_succ]
      refine wpList_yield rfl _ (exec_nilck _ rfl _ rfl) ?_
      simp only [Act.put, List.setIfInBounds_toArray, List.set_cons_zero, List.set_cons_succ]
      refine wpList_yield rfl _ (exec_f3 _ rfl g rfl) ?_
      simp only [Act.put, List.setIfInBounds_toArray, List.set_cons_zero, List.set_cons_succ]
      refine wpList_store_one rfl one3 (.tmp 42) (.tmp 40) rfl g 73 128 _ (.int .i64 ((N2 : Nat) : Int)) rfl rfl rfl hb2 (by rw [hcl2.out]; decide) ?_
      (try simp only [Act.put, List.setIfInBounds_toArray, List.set_cons_zero, List.set_cons_succ])
      refine wpList_nil ?_
      have hb3 := hb2.set_ 73 (.int .i64 ((N2 : Nat) : Int))
      rw [HSET.out] at hb3
      have hfr3 : Fr (· = g) w2 (w2.setCell ⟨g, 73, none⟩ (.int .i64 ((N2 : Nat) : Int))) := Fr.setCell (p := ⟨g, 73, none⟩) (Fr.refl (· = g) w2) (.inl rfl) _
      generalize World.setCell w2 _ _ = w3 at *
      have hfr4 := hfr2.trans hfr3
      have hr4 := hr2.trans hfr3
      have hrest := hcut.fr hr4 (fun k e => e)
      have hc3 := Lib.hid (hb3.atN HHD HBL.out)
      clear hfr2 hfr3 hr2 hb2 hcut hr hc2 hcl hcl2 HSET HPUT
      by_cases hful' : N2 = 64
      · obtain ⟨f1, f2, f3, f4⟩ := hful.out hful'
        subst hful'
        have C2 := fun u => Lib.hid (step_any (hOf (m ++ d)) (splice b' N y) u HHD (hOf_lt _) HBL.out)
        rw [← f2] at C2
        have HF2 := Lib.hid f2
        have HH2 := Lib.hid (hOf_length (m ++ d ++ y))
        have hcl3 := Lib.hid (stC_length HHD HBL.out (n := 64) (all := M))
        have hcl4 := Lib.hid (stC_length HH2.out HBL.out (n := 64) (all := M))
        have hdh : Hid (((stC (hOf (m ++ d)) (splice b' N y) 64 M).drop 1).take 8 = wvs (hOf (m ++ d))) := Lib.hid (stC_h HHD)
        have hdb : Hid (((stC (hOf (m ++ d)) (splice b' N y) 64 M).drop 9).take 64 = bvs (splice b' N y)) := Lib.hid (stC_b HHD HBL.out)
        have hph : Hid (splice (stC (hOf (m ++ d)) (splice b' N y) 64 M) 1 (wvs (hOf (m ++ d ++ y))) = stC (hOf (m ++ d ++ y)) (splice b' N y) 64 M) := Lib.hid (stC_put_h HHD _ HH2.out)
        have hp0 : Hid ((stC (hOf (m ++ d ++ y)) (splice b' N y) 64 M).set 73 (.int .i64 ((0 : Nat) : Int)) = stC (hOf (m ++ d ++ y)) (splice b' N y) 0 M) := Lib.hid (stC_set_n HH2.out HBL.out 0)
        have HSB := Lib.hid (f1 _ HBL.out)
        rw [HYL.out] at *
        unfold arrW arr8 at C2
        go_upto_region 10 with (first
          | ((with_reducible refine at_dst 46 ?_); refine wpList_yield rfl _ (exec_load3 _ rfl _ _ rfl hc3.out) ?_))
        refine rg_begin (Any) [] [10, 11, 12, 13, 14, 15, 16] [0, 1, 2, 3, 4, 5, 6, 7, 8, 9, 10, 11, 12, 13, 14, 15, 16] 0 mixed (by kernel_rfl) (fun _ _ _ _ e hh => ⟨e.symm.trans hh.1, hh.2⟩) ?_
        simp only [pick, List.map_cons, List.map_nil, List.getD_cons_zero, List.getD_cons_succ]
        have hS0 : (Any) _ := any_at w3.drew
        refine rg_take (v := ?v2_0) rfl rfl hS0 ?y2_0 ?_
        case y2_0 => intro W hW; (try subst hW); go_simp; try with_reducible rfl
        simp only [Act.put, List.setIfInBounds_toArray, List.set_cons_zero, List.set_cons_succ]
        refine rg_take (v := ?v2_1) rfl rfl hS0 ?y2_1 ?_
        case y2_1 => intro W hW; (try subst hW); go_simp; try with_reducible rfl
        simp only [Act.put, List.setIfInBounds_toArray, List.set_cons_zero, List.set_cons_succ]
        refine rg_take (v := ?v2_2) rfl rfl hS0 ?y2_2 ?_
        case y2_2 => intro W hW; (try subst hW); go_simp; try with_reducible rfl
        simp only [Act.put, List.setIfInBounds_toArray, List.set_cons_zero, List.set_cons_succ]
        refine rg_turn (Below w3.heap.size w3) [13, 14, 15, 16] (by kernel_rfl) ?_
        have hS : Below w3.heap.size w3 w3.drew := (Below.refl _ _).drew
        refine rg_take rfl rfl hS (fun W hW => exec_nilck _ rfl _ rfl) ?_
        simp only [Act.put, List.setIfInBounds_toArray, List.set_cons_zero, List.set_cons_succ]
        refine rg_take rfl rfl hS (fun W hW => exec_f1 _ rfl g rfl) ?_
        simp only [Act.put, List.setIfInBounds_toArray, List.set_cons_zero, List.set_cons_succ]
        refine rg_take rfl rfl hS (fun W hW => exec_load_at at96 _ rfl g 1 128 _ (wvs (hOf (m ++ d))) rfl (hb3.below hW hb3.lt) hdh.out (by rw [wvs_length]; exact HHD)) ?_
        simp only [Act.put, List.setIfInBounds_toArray, List.set_cons_zero, List.set_cons_succ]
        refine rg_take (v := ?v2_6) rfl rfl hS ?y2_6 ?_
        case y2_6 => intro W hW; (try subst hW); go_simp; try with_reducible rfl
        simp only [Act.put, List.setIfInBounds_toArray, List.set_cons_zero, List.set_cons_succ]
        refine rg_take rfl rfl hS (fun W hW => exec_nilck _ rfl _ rfl) ?_
        simp only [Act.put, List.setIfInBounds_toArray, List.set_cons_zero, List.set_cons_succ]
        refine rg_take rfl rfl hS (fun W hW => exec_f2 _ rfl g rfl) ?_
        simp only [Act.put, List.setIfInBounds_toArray, List.set_cons_zero, List.set_cons_succ]
        refine rg_take rfl rfl hS (fun W hW => exec_load_at at97 _ rfl g 9 128 _ (bvs (splice b' N y)) rfl (hb3.below hW hb3.lt) hdb.out (by rw [bvs_length]; exact HBL.out)) ?_
        simp only [Act.put, List.setIfInBounds_toArray, List.set_cons_zero, List.set_cons_succ]
        refine rg_one rfl rfl ?_; intro K hK; go_simp
        with_reducible refine (C2 _).out.mono ?_
        rintro e w5 ⟨rfl, hw5⟩
        have hS1 : Below w3.heap.size w3 w5 := Below.trans hS (hw5.mono (Below.size hS))
        refine hK _ _ (fun _ => hS1) ?_; clear hK
        refine rg_one rfl rfl ?_; intro K hK
        refine wp_pure (exec_nilck _ rfl _ rfl) ?_
        refine hK _ _ (fun _ => hS1) ?_; clear hK
        simp only [Act.put, List.setIfInBounds_toArray, List.set_cons_zero, List.set_cons_succ]
        refine rg_one rfl rfl ?_; intro K hK
        refine wp_pure (exec_f1 _ rfl g rfl) ?_
        refine hK _ _ (fun _ => hS1) ?_; clear hK
        simp only [Act.put, List.setIfInBounds_toArray, List.set_cons_zero, List.set_cons_succ]
        refine rg_one rfl rfl ?_; intro K hK
        refine wp_store_at at96.i (.tmp 60) (.tmp 58) rfl g 1 128 _ (wvs (hOf (m ++ d ++ y))) rfl rfl (hb3.below hS1 hb3.lt) (by rw [wvs_length]; exact HH2.out) (by rw [hcl3.out]; decide) (wvs_one _) ?_
        intro w6 hb6 hg6 hs6
        rw [hph.out] at hb6
        refine hK _ _ (fun h => by cases h) ?_; clear hK
        refine rg_one rfl rfl ?_; intro K hK
        refine wp_pure (exec_nilck _ rfl _ rfl) ?_
        refine hK _ _ (fun h => by cases h) ?_; clear hK
        simp only [Act.put, List.setIfInBounds_toArray, List.set_cons_zero, List.set_cons_succ]
        refine rg_one rfl rfl ?_; intro K hK
        refine wp_pure (exec_f3 _ rfl g rfl) ?_
        refine hK _ _ (fun h => by cases h) ?_; clear hK
        simp only [Act.put, List.setIfInBounds_toArray, List.set_cons_zero, List.set_cons_succ]
        refine rg_one rfl rfl ?_; intro K hK
        refine wp_store_one one3 _ _ rfl g 73 128 _ (.int .i64 0) rfl rfl rfl hb6 (by rw [hcl4.out]; decide) ?_
        refine hK _ _ (fun h => by cases h) ?_; clear hK
        refine rg_done (by kernel_rfl) ?_
        have hb7 := hb6.set_ 73 (.int .i64 0)
        rw [show (Value.int .i64 0) = .int .i64 ((0 : Nat) : Int) from rfl, hp0.out] at hb7
        have hfr7 : Fr (· = g) w3 (w6.setCell ⟨g, 73, none⟩ (.int .i64 0)) :=
          ((Fr.of_below hS1).grown hg6 (by intro k hk; cases hk; exact .inl rfl)).trans (Fr.setCell (p := ⟨g, 73, none⟩) (Fr.refl (· = g) w6) (.inl rfl) _)
        go_wp2_with fail
        go_roundw
        case rel =>
          refine ⟨d ++ y, r.drop k, splice b' N y, _, _, _, hdr', rfl, hrest.len, fun _ => hrest.fr hfr7 (fun k e => e), by rw [← List.append_assoc]; exact HSB.out, ?_, hfr4.trans hfr7⟩
          rw [← List.append_assoc, f3]
          exact hb7
        case measure => simp only [sliceLen]; omega
      · obtain ⟨f1, f2, f3⟩ := hfew.out (by omega)
        have hne : ((N2 : Int) == 64) = false := by simp; omega
        rw [HYL.out] at f3
        go_wp2_with (first
          | ((with_reducible refine at_dst 46 ?_); refine wpList_yield rfl _ (exec_load3 _ rfl _ _ rfl hc3.out) ?_))
        go_roundw
        case rel =>
          refine ⟨d ++ y, r.drop k, splice b' N y, _, _, _, hdr', rfl, hrest.len, fun _ => hrest, by rw [← List.append_assoc]; exact f1, ?_, hfr4⟩
          rw [← List.append_assoc, f2, f3, HN2.out]
          exact hb3
        case measure => simp only [sliceLen]; omega
    · obtain rfl : n' = 0 := by omega
      obtain rfl : r = [] := List.eq_nil_of_length_eq_zero hL
      obtain rfl : d = x := by have h := hdr.out; rwa [List.append_nil] at h
      clear hr
      go_upto_region 11 with fail
      refine wp_region_lit ?_
      refine wpList_yield rfl _ (exec_move _ rfl) ?_
      simp only [Act.put, Act.eval, Array.getD_eq_getD_getElem?, List.getElem?_toArray, List.getElem?_cons_succ, List.getElem?_cons_zero, Option.getD_some, List.setIfInBounds_toArray, List.set_cons_zero, List.set_cons_succ]
      refine wpList_yield rfl _ (exec_len24 _ rfl A n c rfl) ?_
      simp only [Act.put, List.setIfInBounds_toArray, List.set_cons_zero, List.set_cons_succ]
      refine wpList_yield rfl _ (exec_assign _ rfl) ?_
      simp only [Act.put, Act.eval, Array.getD_eq_getD_getElem?, List.getElem?_toArray, List.getElem?_cons_succ, List.getElem?_cons_zero, Option.getD_some, List.setIfInBounds_toArray, List.set_cons_zero, List.set_cons_succ]
      refine wpList_nil ?_
      go_wp2_with fail
      go_ret
      refine ⟨rfl, ⟨b', hsb, ?_⟩, hfr⟩
      rw [HN.out, HM.out]
      exact hblk
end Go.Proofs.Ytehbahobkgoapaa
namespace Go.Proofs.Ytehbahobkgoapaa
open Go Go.RowKit
set_option linter.unusedSimpArgs false
set_option linter.unusedVariables false
theorem exec_uand {P : Program} {w : World} {a : Act} {o : Oper} {t t' : TypeId} (x y : Operand) (ho : o.op = .binOp .and t x y t') (m n r : Nat) (hx : a.eval x = .int .u64 (m : Int)) (hy : a.eval y = .int .u64 (n : Int)) (hm : m < 18446744073709551616) (hn : n < 18446744073709551616) (hr : m &&& n = r) :
    (execOp a.eval o).run P w = .ok (.value (.int .u64 (r : Int))) w := by
  subst hr
  unfold execOp
  simp only [ho, hx, hy]
  go_simp
  rw [u64_and_nat _ _ hm hn]
theorem and_low (T : Nat) : T &&& 4294967295 = T % 4294967296 := Nat.and_two_pow_sub_one_eq_mod T 32
theorem put32_be (x : Nat) (u : World) (hx : x < 4294967296) :
    Calls Try.prog 37 #[.int .i64 (x : Int)] u fun e w' => ∃ A c, e = .returned (.tuple #[.slice A 4 c, .int .i64 0]) ∧ OwnB w' u.heap.size 5 (.slice A 4 c) (be 4 x) ∧ Below u.heap.size u w' := by
  have e1 : putE 4294967295 (x : Int) = 0 := by unfold putE; rw [if_pos (by omega)]
  have e2 : putL 4 4294967295 (x : Int) = be 4 x := by unfold putL; rw [if_pos (by omega), Int.toNat_natCast]
  refine (put32 (x : Int) u (by omega)).mono ?_
  rintro e w' ⟨v, rfl, ho, hw⟩
  rw [e1, e2] at *
  obtain ⟨A, c, rfl, _⟩ := ho.rd
  rw [be_length] at ho ⊢
  exact ⟨A, c, rfl, ho, hw⟩
theorem OwnB.lft {w : World} {base E g : Nat} {A : Option Addr} {n c : Nat} {l : List UInt8} (h : OwnB w base E (.slice A n c) l) (hg : g < base) : Lft (· = g) w A n c l := by
  obtain ⟨A', c', e, h1, h2, h3⟩ := h.rd
  injection e with e1 e2 e3
  subst e1; subst e3
  refine ⟨e2.symm, by omega, h2, h3, ?_⟩
  intro ad had e
  rcases h with ⟨h, _⟩ | ⟨g', sp, h, hb, _⟩
  · injection h with h _ _
    rw [had] at h
    cases h
  · injection h with h _ _
    rw [had] at h
    cases h
    simp at e
    omega
theorem one_lft {w : World} {g : Nat} (x : UInt8) (v : Value) (hv : bv x = v) (hg : g < w.heap.size) : Lft (· = g) (w.alloc (.cells #[v] 5)) (some ⟨w.heap.size, 0, none⟩) 1 1 [x] :=
  ⟨rfl, Nat.le_refl _, by decide, one_new w x v hv, by intro ad h e; cases h; simp at e; omega⟩
theorem fr_below {S : Nat → Prop} {a b : World} {B : Nat} (h : Fr S a b) (hS : ∀ k, S k → B ≤ k) (hB : B ≤ a.heap.size) : Below B a b :=
  ⟨h.os, h.tape, h.output, h.size, fun k hk => h.block k (by omega) (fun hs => by have := hS k hs; omega)⟩
def allOf (w : World) (g : Nat) : Nat := match w.cell? ⟨g, 74, none⟩ with
  | some (.int _ z) => z.toNat
  | _ => 0
theorem St.all {w : World} {g : Nat} {m : List UInt8} (h : St w g m) : allOf w g = m.length := by
  obtain ⟨b, hs, hb⟩ := h
  unfold allOf
  rw [hb.atA (hOf_length m) hs.1]
  simp
/-- While a copy of the state is ended: the result's block, the copy in block g. -/
structure SumS (N g : Nat) (w wr : World) (m : List UInt8) : Prop where
  bel : Below N w wr
  out : Blk wr N 25 (bvs (zb 32))
  st : St wr g m
  lt : N < g
theorem SumS.write {N g : Nat} {w wr w2 : World} {m m2 : List UInt8} (h : SumS N g w wr m) (hf : Fr (· = g) wr w2) (hs : St w2 g m2) : SumS N g w w2 m2 :=
  ⟨h.bel.trans (fr_below hf (fun k e => by rw [e]; exact Nat.le_of_lt h.lt) (Nat.le_of_lt h.out.lt)), h.out.fr hf (fun e => by have := h.lt; omega), hs, h.lt⟩
theorem SumS.below {N g : Nat} {w wr w2 : World} {m : List UInt8} (h : SumS N g w wr m) (hb : Below wr.heap.size wr w2) : SumS N g w w2 m :=
  ⟨h.bel.trans (hb.mono (Nat.le_of_lt h.out.lt)), h.out.below hb h.out.lt, h.st.below hb, h.lt⟩
theorem SumS.alloc {N g : Nat} {w wr : World} {m : List UInt8} (h : SumS N g w wr m) (o : Obj) : SumS N g w (wr.alloc o) m := h.below ((Below.refl _ _).alloc (Nat.le_refl _) o)
theorem write_one (g : Nat) (m : List UInt8) (A : Option Addr) (c : Nat) (y : UInt8) (w : World) (h : St w g m) (hx : Lft (· = g) w A 1 c [y]) (hb : m.length + 1 ≤ 4611686018427387904) :
    Calls Try.prog 84 #[.pointer (some ⟨g, 0, none⟩), .slice A 1 c] w fun e w' => e = .returned (.int .i64 1) ∧ St w' g (m ++ [y]) ∧ Fr (· = g) w w' := write_state g m A 1 c [y] w h rfl (fun _ => hx) hb
theorem splice_bvs (a y : List UInt8) (k : Nat) : splice (bvs a) k (bvs y) = bvs (splice a k y) := by
  unfold splice bvs
  simp [List.map_take, List.map_drop]
set_option maxRecDepth 100000 in
set_option maxHeartbeats 4000000 in
theorem sum_state (g : Nat) (m : List UInt8) (w : World) (h : St w g m) (hb : m.length ≤ 1152921504606846976) :
    Calls Try.prog 85 #[.pointer (some ⟨g, 0, none⟩)] w fun e w' => e = .returned (arr8 (shaL m)) ∧ Below w.heap.size w w' := by
  obtain ⟨b, hs, hblk⟩ := h
  have C := fun (u : World) (hu : u.cell? ⟨g, 0, none⟩ = some (.bool true)) => Lib.hid (none_no g u hu)
  have HHL := Lib.hid (hOf_length m)
  have hcl : Hid ((stC (hOf m) b (m.length % 64) m.length).length = 75) := Lib.hid (stC_length HHL.out hs.1)
  have h1 := stC_one (hOf m) b (m.length % 64) m.length
  have HF : Hid (∀ (w' : World) (g' : Nat), Blk w' g' 128 (stC (hOf m) b (m.length % 64) m.length) → St w' g' m) := Lib.hid (fun w' g' h => ⟨b, hs, h⟩)
  have hb0 : Blk (w.alloc (.cells (bvs (zb 32)).toArray 25)) g 128 (stC (hOf m) b (m.length % 64) m.length) := hblk.alloc _
  have hc0 := Lib.hid (hb0.at0)
  have hbz : Blk (w.alloc (.cells (bvs (zb 32)).toArray 25)) w.heap.size 25 (bvs (zb 32)) := Blk.new _ _ _
  have hw0 : Below w.heap.size w (w.alloc (.cells (bvs (zb 32)).toArray 25)) := (Below.refl _ _).alloc (Nat.le_refl _) _
  have HPA : Hid ((hOf (pad m)).flatMap (be 4) = shaL m) := Lib.hid rfl
  clear hs hblk
  generalize stC (hOf m) b (m.length % 64) m.length = cs at *
  generalize shaL m = res at *
  unfold arr8
  go_enter Try.func85, Try.ntmps85
  go_upto_region 1 with fail
  generalize hW : World.alloc w _ = w0
  have h3 : Blk w0 g 128 cs ∧ Hid (w0.cell? ⟨g, 0, none⟩ = some (.bool true)) ∧ Blk w0 w.heap.size 25 (bvs (zb 32)) ∧ Below w.heap.size w w0 := by rw [← hW]; exact ⟨hb0, hc0, hbz, hw0⟩
  clear hb0 hc0 hbz hw0 hW
  obtain ⟨hb0, hc0, hbz, hw0⟩ := h3
  go_upto_region 3 with (first
    | (go_at_call 142; with_reducible refine (C _ hc0.out).out.mono ?_; rintro e w1 ⟨rfl, rfl⟩))
  have hz0 : Blk (w0.alloc (.cells Try.zeroCells128 128)) w0.heap.size 128 zst := by rw [zero128]; exact Blk.new _ _ _
  have hz1 : Blk (w0.alloc (.cells Try.zeroCells128 128)) w.heap.size 25 (bvs (zb 32)) := hbz.alloc _
  have hz2 : Below w.heap.size w (w0.alloc (.cells Try.zeroCells128 128)) := hw0.alloc (Nat.le_of_lt hbz.lt) _
  refine wp_region_lit ?_
  refine wpList_yield rfl _ (exec_move _ rfl) ?_
  simp only [Act.put, Act.eval, Array.getD_eq_getD_getElem?, List.getElem?_toArray, List.getElem?_cons_succ, List.getElem?_cons_zero, Option.getD_some, List.setIfInBounds_toArray, List.set_cons_zero, List.set_cons_succ]
  refine wpList_yield rfl _ (exec_nilck _ rfl _ rfl) ?_
  simp only [Act.put, List.setIfInBounds_toArray, List.set_cons_zero, List.set_cons_succ]
  refine wpList_yield rfl _ (exec_load_agg at128 (.tmp 18) rfl g 128 cs rfl hb0 hcl.out) ?_
  simp only [Act.put, List.setIfInBounds_toArray, List.set_cons_zero, List.set_cons_succ]
  refine wpList_plain rfl fun K hK => ?_; go_simp
  refine hK _ _ ?_; clear hK
  (try simp only [Act.put, List.setIfInBounds_toArray, List.set_cons_zero, List.set_cons_succ])
  refine wpList_store_at at128.i rfl (.tmp 3) (.tmp 19) rfl w0.heap.size 0 128 zst cs rfl rfl hz0 hcl.out (by rw [zst_length]; exact Nat.le_refl 75) h1 ?_
  intro w2 hb2 hg2 hs2
  (try simp only [Act.put, List.setIfInBounds_toArray, List.set_cons_zero, List.set_cons_succ])
  refine wpList_nil ?_
  rw [splice_all _ _ (by rw [zst_length, hcl.out])] at hb2
  have hlt0 := hbz.lt
  have s2 : SumS w.heap.size w0.heap.size w w2 m := ⟨hz2.grown hg2 hz2.size (by intro k hk; cases hk; omega), hz1.grown hg2 (by simp; omega), HF.out _ _ hb2, hlt0⟩
  clear HF hz0 hz1 hz2 hb2 hg2 hs2 hb0 hc0 hbz hw0 C HHL
  generalize w0.heap.size = G at *
  obtain ⟨b2, hsb2, hblk2⟩ := s2.st
  have hA := Lib.hid (hblk2.atA (hOf_length m) hsb2.1)
  clear hblk2 hsb2 b2
  obtain ⟨T, hT⟩ : ∃ T, 8 * m.length = T := ⟨_, rfl⟩
  have HT := Lib.hid hT
  have HTB : Hid ((m.length : Int) * 8 = (T : Int)) := Lib.hid (by omega)
  have hTb : T ≤ 9223372036854775808 := by omega
  clear hT
  go_upto_region 4 with fail
  refine wp_region_lit ?_
  refine wpList_yield rfl _ (exec_f4 _ rfl G rfl) ?_
  simp only [Act.put, List.setIfInBounds_toArray, List.set_cons_zero, List.set_cons_succ]
  refine wpList_yield rfl _ (exec_load3 _ rfl _ _ rfl hA.out) ?_
  simp only [Act.put, List.setIfInBounds_toArray, List.set_cons_zero, List.set_cons_succ]
  refine wpList_yield rfl _ (exec_conv Try.underlying3 Try.underlying175 _ rfl .i64 (m.length : Int) (m.length : Int) rfl rfl (by rw [IntKind.wrap_u64]; omega)) ?_
  simp only [Act.put, List.setIfInBounds_toArray, List.set_cons_zero, List.set_cons_succ]
  refine wpList_yield rfl _ (exec_umul _ _ rfl (m.length : Int) 8 (T : Int) rfl rfl HTB.out (by have := HTB.out; omega)) ?_
  simp only [Act.put, List.setIfInBounds_toArray, List.set_cons_zero, List.set_cons_succ]
  refine wpList_yield rfl _ (exec_assign _ rfl) ?_
  simp only [Act.put, Act.eval, Array.getD_eq_getD_getElem?, List.getElem?_toArray, List.getElem?_cons_succ, List.getElem?_cons_zero, Option.getD_some, List.setIfInBounds_toArray, List.set_cons_zero, List.set_cons_succ]
  refine wpList_nil ?_
  go_upto_region 5 with fail
  have s3 := s2.alloc (.cells #[.int .u8 128] 5)
  have hG2 := s2.st.lt
  refine wp_region_lit ?_
  refine wpList_plain rfl fun K hK => ?_; go_simp
  refine hK _ _ ?_; clear hK
  (try simp only [Act.put, List.setIfInBounds_toArray, List.set_cons_zero, List.set_cons_succ])
  refine wpList_plain rfl fun K hK => ?_; go_simp
  with_reducible refine (write_one G m (some ⟨w2.heap.size, 0, none⟩) 1 128 _ s3.st (one_lft 128 _ rfl hG2) (by omega)).mono ?_
  rintro e w4 ⟨rfl, hs4, hf4⟩
  refine hK _ _ ?_; clear hK
  (try simp only [Act.put, List.setIfInBounds_toArray, List.set_cons_zero, List.set_cons_succ])
  refine wpList_nil ?_
  have s4 : SumS w.heap.size G w w4 (padTo m 0) := s3.write hf4 hs4
  clear s2 s3 hs4 hf4 hA hG2
  go_wp2_with fail
  have hz64 : padz m.length < 64 := padz_lt _
  go_loopw [26] (fun _ wr => ∃ j : Nat, j ≤ padz m.length ∧ SumS w.heap.size G w wr (padTo m j)) (fun _ wr => m.length + 65 - allOf wr G)
  case atStart => exact ⟨0, by omega, s4⟩
  case round =>
    clear s4
    obtain ⟨j, hj, s4⟩ := hrel
    obtain ⟨b3, hsb3, hblk3⟩ := s4.st
    obtain ⟨r, hr1⟩ : ∃ r, (m.length + 1 + j) % 64 = r := ⟨_, rfl⟩
    have hst := padTo_stop m.length j hj
    rw [hr1] at hst
    have hcn := hblk3.atN (hOf_length _) hsb3.1
    rw [padTo_length, hr1] at hcn
    have HC := Lib.hid hcn
    have hall := Lib.hid (s4.st.all)
    rw [padTo_length] at hall
    have hG4 := s4.st.lt
    clear hblk3 hsb3 b3 hr1 hcn
    by_cases hjl : j = padz m.length
    · obtain rfl : r = 56 := hst.2 hjl
      subst hjl
      clear hst hj
      obtain ⟨hi, hhi⟩ : ∃ hi, T / 4294967296 = hi := ⟨_, rfl⟩
      obtain ⟨lo, hlo⟩ : ∃ lo, T % 4294967296 = lo := ⟨_, rfl⟩
      have hhib : hi < 4294967296 := by omega
      have hlob : lo < 4294967296 := by omega
      have HHI : Hid (IntKind.i64.wrap ((T / 4294967296 : Nat) : Int) = (hi : Int)) := Lib.hid (by rw [hhi]; exact IntWalk.i64_in _ (by omega))
      have HLO : Hid (T &&& 4294967295 = lo) := Lib.hid (by rw [and_low]; exact hlo)
      have HLW : Hid (IntKind.i64.wrap (lo : Int) = (lo : Int)) := Lib.hid (IntWalk.i64_in _ (by omega))
      have HPAD : Hid ((padTo m (padz m.length) ++ be 4 hi) ++ be 4 lo = pad m) := Lib.hid (by rw [List.append_assoc, ← hhi, ← hlo, ← be_split, ← HT.out]; exact padTo_end m)
      have HPL : Hid ((padTo m (padz m.length)).length = m.length + 1 + padz m.length) := Lib.hid (padTo_length _ _)
      have P1 := fun u => Lib.hid (put32_be hi u hhib)
      have P2 := fun u => Lib.hid (put32_be lo u hlob)
      clear hhi hlo
      generalize padTo m (padz m.length) = q at *
      go_upto_region 8 with (first
        | ((with_reducible refine at_dst 27 ?_); refine wpList_yield rfl _ (exec_load3 _ rfl _ _ rfl HC.out) ?_))
      go_upto_region 10 with (first
        | ((with_reducible refine at_dst 33 ?_); refine wpList_yield rfl _ (exec_ushr _ _ rfl T 32 _ rfl rfl (by decide) 4294967296 rfl) ?_)
        | ((with_reducible refine at_dst 34 ?_); refine wpList_yield rfl _ (exec_conv Try.underlying175 Try.underlying2 _ rfl .u64 _ (hi : Int) rfl rfl HHI.out) ?_)
        | ((with_reducible refine at_dst 40 ?_); refine wpList_yield rfl _ (exec_uand _ _ rfl T 4294967295 lo rfl rfl (by omega) (by decide) HLO.out) ?_)
        | ((with_reducible refine at_dst 41 ?_); refine wpList_yield rfl _ (exec_conv Try.underlying175 Try.underlying2 _ rfl .u64 (lo : Int) (lo : Int) rfl rfl HLW.out) ?_)
        | (go_at_call 37; with_reducible refine (P1 _).out.mono ?_; rintro e w5 ⟨A5, c5, rfl, ho5, hw5⟩)
        | (go_at_call 37; with_reducible refine (P2 _).out.mono ?_; rintro e w6 ⟨A6, c6, rfl, ho6, hw6⟩))
      have s6 : SumS w.heap.size G w w6 q := (s4.below hw5).below hw6
      have hl5 : Lft (· = G) w6 A5 4 c5 (be 4 hi) := (ho5.lft hG4).fr (S := (· = G)) (T := (· = G)) (Fr.of_below hw6) (fun k e => e)
      have hl6 : Lft (· = G) w6 A6 4 c6 (be 4 lo) := ho6.lft (Nat.lt_of_lt_of_le hG4 hw5.size)
      clear s4 ho5 ho6 hw5 hw6 hG4 hall
      have hq1 : q.length + 4 ≤ 4611686018427387904 := by rw [HPL.out]; omega
      have hq2 : (q ++ be 4 hi).length + 4 ≤ 4611686018427387904 := by rw [List.length_append, be_length, HPL.out]; omega
      go_upto_region 12 with (first
        | (go_at_call 84; with_reducible refine (write_state G q A5 4 c5 (be 4 hi) w6 s6.st (be_length _ _) (fun _ => hl5) hq1).mono ?_; rintro e w7 ⟨rfl, hs7, hf7⟩)
        | (go_at_call 84; with_reducible refine (write_state G (q ++ be 4 hi) A6 4 c6 (be 4 lo) w7 hs7 (be_length _ _) (fun _ => hl6.fr hf7 (fun k e => e)) hq2).mono ?_; rintro e w8 ⟨rfl, hs8, hf8⟩))
      have s8 : SumS w.heap.size G w w8 (pad m) := by
        rw [← HPAD.out]
        exact (s6.write hf7 hs7).write hf8 hs8
      clear s6 hl5 hl6 hs7 hf7 hs8 hf8 hq1 hq2 HPAD HPL P1 P2
      generalize pad m = P at *
      have t1 := s8.alloc (.cells (bvs (zb 32)).toArray 25)
      have t2 : Blk (w8.alloc (.cells (bvs (zb 32)).toArray 25)) w8.heap.size 25 (bvs (outW (hOf P) 0)) := by rw [outW_zero]; exact Blk.new _ _ _
      have hG8 := s8.out.lt
      clear s8
      go_upto_region 13 with fail
      generalize hW : World.alloc w8 _ = w9
      have h3 : SumS w.heap.size G w w9 P ∧ Blk w9 w8.heap.size 25 (bvs (outW (hOf P) 0)) := by rw [← hW]; exact ⟨t1, t2⟩
      clear hW t1 t2
      obtain ⟨t1, t2⟩ := h3
      generalize w8.heap.size = G2 at *
      have hHL := hOf_length P
      have hHT := hOf_lt P
      obtain ⟨b4, hsb4, hblk4⟩ := t1.st
      have hdh : Hid (((stC (hOf P) b4 (P.length % 64) P.length).drop 1).take 8 = wvs (hOf P)) := Lib.hid (stC_h hHL)
      have t3 := t1.bel
      have t4 := t1.out
      clear t1 hsb4
      generalize hOf P = H at *
      have HHL := Lib.hid hHL
      refine wp_region_lit ?_
      refine wpList_yield rfl _ (exec_f1 _ rfl G rfl) ?_
      simp only [Act.put, List.setIfInBounds_toArray, List.set_cons_zero, List.set_cons_succ]
      refine wpList_yield rfl _ (exec_load_at at96 _ rfl G 1 128 _ (wvs H) rfl hblk4 hdh.out (by rw [wvs_length]; exact HHL.out)) ?_
      simp only [Act.put, List.setIfInBounds_toArray, List.set_cons_zero, List.set_cons_succ]
      refine wpList_yield rfl _ (exec_move _ rfl) ?_
      simp only [Act.put, Act.eval, Array.getD_eq_getD_getElem?, List.getElem?_toArray, List.getElem?_cons_succ, List.getElem?_cons_zero, Option.getD_some, List.setIfInBounds_toArray, List.set_cons_zero, List.set_cons_succ]
      refine wpList_nil ?_
      have hHlt : Hid (∀ d, d < 8 → H[d]? = some (H.getD d 0)) := Lib.hid (fun d hd => getD_some H d (by rw [HHL.out]; exact hd))
      have hH32 : Hid (∀ d, H.getD d 0 < 4294967296) := Lib.hid (fun d => ext_get_lt H d hHT)
      have hOS := Lib.hid (fun (i : Nat) (hi : i < 8) => outW_step H i hHL hi)
      have hOL := Lib.hid (fun (i : Nat) (hi : i ≤ 8) => outW_length H i hHL hi)
      have hOE : Hid (outW H 8 = res) := Lib.hid (by rw [outW_end H hHL]; exact HPA.out)
      clear hdh hblk4 hHL HPA hHT
      go_wp2_with fail
      go_loopw [51] (fun v wr => ∃ i : Nat, i ≤ 8 ∧ v = .int .i64 (i : Int) ∧ Blk wr G2 25 (bvs (outW H i)) ∧ Blk wr w.heap.size 25 (bvs (zb 32)) ∧ Below w.heap.size w wr) (fun v _ => 8 - (intOf v).toNat)
      case atStart => exact ⟨0, by omega, by go_num, t2, t4, t3⟩
      case round =>
        clear t2 t3 t4
        obtain ⟨i, hi8, rfl, t2, t4, t3⟩ := hrel
        by_cases hil : i < 8
        · have hiz : (i : Int) < 8 := by omega
          obtain ⟨x, hx⟩ : ∃ x, x = H.getD i 0 := ⟨_, rfl⟩
          have ex : Hid (H[i]? = some x) := Lib.hid (by rw [hx]; exact hHlt.out i hil)
          have hx32 : x < 4294967296 := by rw [hx]; exact hH32.out i
          have HS : Hid (splice (outW H i) (4 * i) (be 4 x) = outW H (i + 1)) := Lib.hid (by rw [hx]; exact hOS.out i hil)
          have HQL := Lib.hid (hOL.out i hi8)
          have HXW : Hid (IntKind.i64.wrap (x : Int) = (x : Int)) := Lib.hid (IntWalk.i64_in _ (by omega))
          have P3 := fun u => Lib.hid (put32_be x u hx32)
          have hG2 := t2.lt
          clear hx
          go_upto_region 15 with fail
          refine wp_region_lit ?_
          refine wpList_yield rfl _ (exec_move _ rfl) ?_
          simp only [Act.put, Act.eval, Array.getD_eq_getD_getElem?, List.getElem?_toArray, List.getElem?_cons_succ, List.getElem?_cons_zero, Option.getD_some, List.setIfInBounds_toArray, List.set_cons_zero, List.set_cons_succ]
          refine wpList_yield rfl _ (exec_index_agg _ _ rfl H i .i64 x rfl rfl HHL.out ex.out) ?_
          simp only [Act.put, List.setIfInBounds_toArray, List.set_cons_zero, List.set_cons_succ]
          refine wpList_yield rfl _ (exec_assign _ rfl) ?_
          simp only [Act.put, Act.eval, Array.getD_eq_getD_getElem?, List.getElem?_toArray, List.getElem?_cons_succ, List.getElem?_cons_zero, Option.getD_some, List.setIfInBounds_toArray, List.set_cons_zero, List.set_cons_succ]
          refine wpList_yield rfl _ (exec_assign _ rfl) ?_
          simp only [Act.put, Act.eval, Array.getD_eq_getD_getElem?, List.getElem?_toArray, List.getElem?_cons_succ, List.getElem?_cons_zero, Option.getD_some, List.setIfInBounds_toArray, List.set_cons_zero, List.set_cons_succ]
          refine wpList_nil ?_
          go_upto_region 17 with (first
            | ((with_reducible refine at_dst 57 ?_); refine wpList_yield rfl _ (exec_conv Try.underlying94 Try.underlying2 _ rfl .u32 (x : Int) (x : Int) rfl rfl HXW.out) ?_)
            | (go_at_call 37; with_reducible refine (P3 _).out.mono ?_; rintro e w10 ⟨A7, c7, rfl, ho7, hw7⟩))
          obtain ⟨A8, c8, e8, h8, h9, hrd⟩ := ho7.rd
          injection e8 with e9 e10 e11
          subst e9; subst e11
          clear e10 h8 h9
          have t5 := t2.below hw7 hG2
          refine wp_region_lit ?_
          refine wpList_yield rfl _ (exec_move _ rfl) ?_
          simp only [Act.put, Act.eval, Array.getD_eq_getD_getElem?, List.getElem?_toArray, List.getElem?_cons_succ, List.getElem?_cons_zero, Option.getD_some, List.setIfInBounds_toArray, List.set_cons_zero, List.set_cons_succ]
          refine wpList_yield rfl _ (exec_imul _ _ rfl _ _ (((4 * i : Nat) : Int)) rfl rfl (by omega) (by omega)) ?_
          simp only [Act.put, List.setIfInBounds_toArray, List.set_cons_zero, List.set_cons_succ]
          refine wpList_yield rfl _ (exec_arr_from ia25 _ _ rfl G2 0 (4 * i) _ rfl rfl (by omega)) ?_
          simp only [Act.put, List.setIfInBounds_toArray, List.set_cons_zero, List.set_cons_succ]
          refine wpList_yield rfl _ (exec_move _ rfl) ?_
          simp only [Act.put, Act.eval, Array.getD_eq_getD_getElem?, List.getElem?_toArray, List.getElem?_cons_succ, List.getElem?_cons_zero, Option.getD_some, List.setIfInBounds_toArray, List.set_cons_zero, List.set_cons_succ]
          refine wpList_copy_mid bt rfl (.tmp 63) (.tmp 64) rfl G2 (0 + 4 * i) (32 - 4 * i) (32 - 4 * i) A7 4 c7 rfl rfl 25 (bvs (outW H i)) (be 4 x) t5 hrd (be_length _ _) (by rw [bvs_length, HQL.out]; omega) ?_
          intro w11 hb11 hg11 hs11
          (try simp only [Act.put, List.setIfInBounds_toArray, List.set_cons_zero, List.set_cons_succ])
          refine wpList_nil ?_
          rw [List.take_of_length_le (by rw [be_length]; omega), splice_bvs, Nat.zero_add, HS.out] at hb11
          have t6 : Below w.heap.size w w11 := (t3.trans (hw7.mono (Nat.le_of_lt t4.lt))).grown hg11 (by have := t4.lt; have := hw7.size; omega) (by intro k hk; cases hk; omega)
          have t7 := (t4.below hw7 t4.lt).grown hg11 (by simp; omega)
          go_wp2_with fail
          go_roundw
          case rel => exact ⟨i + 1, by omega, by go_num, hb11, t7, t6⟩
          case measure => simp only [intOf]; omega
        · obtain rfl : i = 8 := by omega
          rw [hOE.out] at t2
          have hrl : Hid (res.length = 32) := Lib.hid (by rw [← hOE.out]; exact hOL.out 8 (Nat.le_refl _))
          clear hOE hOL hOS hHlt hH32
          go_upto_region 19 with fail
          refine wp_region_lit ?_
          refine wpList_yield rfl _ (exec_load_agg at25w (.tmp 9) rfl _ 25 (bvs res) rfl t2 (by rw [bvs_length]; exact hrl.out)) ?_
          simp only [Act.put, List.setIfInBounds_toArray, List.set_cons_zero, List.set_cons_succ]
          refine wpList_store_at at25w.i rfl (.tmp 2) (.tmp 67) rfl w.heap.size 0 25 (bvs (zb 32)) (bvs res) rfl rfl t4 (by rw [bvs_length]; exact hrl.out) (by rw [bvs_length, zb_length]; omega) (bvs_one _) ?_
          intro w1 hb1 hg1 hs1
          (try simp only [Act.put, List.setIfInBounds_toArray, List.set_cons_zero, List.set_cons_succ])
          refine wpList_nil ?_
          go_wp2_with fail
          (try simp only [Exit.inBlock, Exit.then])
          rw [splice_all _ _ (by rw [bvs_length, bvs_length, zb_length]; exact hrl.out.symm)] at hb1
          refine bodyPost_ret (ret_cell rfl at25w _ _ w.heap.size 25 (bvs res) rfl hb1 (by rw [bvs_length]; exact hrl.out)) rfl ?_
          exact ⟨rfl, t3.grown hg1 t3.size (by intro k hk; cases hk; omega)⟩
    · have hrne : ((r : Int) == 56) = false := by
        have h := fun e => hjl (hst.1 e)
        simp; omega
      have t4 := s4.alloc (.cells #[.int .u8 0] 5)
      have hbd : (padTo m j).length + 1 ≤ 4611686018427387904 := by rw [padTo_length]; omega
      clear hst
      go_wp2_with (first
        | ((with_reducible refine at_dst 27 ?_); refine wpList_yield rfl _ (exec_load3 _ rfl _ _ rfl HC.out) ?_)
        | (go_at_call 84; with_reducible refine (write_one G (padTo m j) (some ⟨wr.heap.size, 0, none⟩) 1 0 _ t4.st (one_lft 0 _ rfl hG4) hbd).mono ?_; rintro e w5 ⟨rfl, hs5, hf5⟩))
      have s5 : SumS w.heap.size G w w5 (padTo m (j + 1)) := by
        rw [← padTo_succ]
        exact t4.write hf5 hs5
      go_roundw
      case rel => exact ⟨j + 1, by omega, s5⟩
      case measure =>
        have e1 := s5.st.all
        have e2 := hall.out
        rw [padTo_length] at e1
        omega
set_option maxRecDepth 100000 in
set_option maxHeartbeats 1000000 in
theorem sum_any (A : Option Addr) (n c : Nat) (b : List UInt8) (w : World) (hr : Rd w A (bvs b)) (hl : b.length = n) (hcap : n ≤ c) (hmax : c ≤ maxLen) (hn : n ≤ 1152921504606846976) :
    Calls Try.prog 79 #[.slice A n c] w fun e w' => e = .returned (arr8 (shaL b)) ∧ Below w.heap.size w w' := by
  have hbz : Blk (w.alloc (.cells (bvs (zb 32)).toArray 25)) w.heap.size 25 (bvs (zb 32)) := Blk.new _ _ _
  have hw0 : Below w.heap.size w (w.alloc (.cells (bvs (zb 32)).toArray 25)) := (Below.refl _ _).alloc (Nat.le_refl _) _
  have C1 := fun u => Lib.hid (new_state u)
  have HRL : Hid ((shaL b).length = 32) := Lib.hid (shaL_length b)
  have C3 := fun (g : Nat) (u : World) (h : St u g b) => Lib.hid (sum_state g b u h (by rw [hl]; exact hn))
  generalize shaL b = res at *
  unfold arr8 at *
  go_enter Try.func79, Try.ntmps79
  go_upto_region 1 with fail
  generalize hW : World.alloc w _ = w0
  have h3 : Blk w0 w.heap.size 25 (bvs (zb 32)) ∧ Below w.heap.size w w0 := by rw [← hW]; exact ⟨hbz, hw0⟩
  clear hW hbz hw0
  obtain ⟨hbz, hw0⟩ := h3
  have hz := hbz.lt
  go_upto_region 2 with (first
    | (go_at_call 83; with_reducible refine (C1 _).out.mono ?_; rintro e w1 ⟨g, rfl, hg, hs1, hw1⟩))
  have hw01 : Below w.heap.size w w1 := hw0.trans (hw1.mono hw0.size)
  go_upto_region 3 with (first
    | (go_at_call 84; with_reducible refine (write_state g [] A n c b w1 hs1 hl (fun h0 => rd_lft hr hl hcap hmax h0 hw01 (by omega)) (by rw [List.length_nil]; omega)).mono ?_; rintro e w2 ⟨rfl, hs2, hf2⟩))
  rw [List.nil_append] at hs2
  have hw02 : Below w.heap.size w w2 := hw01.trans (fr_below hf2 (fun k e => by rw [e]; omega) hw01.size)
  have hbz2 := (hbz.below hw1 hz).fr hf2 (fun e => by omega)
  refine wp_region_lit ?_
  refine wpList_yield rfl _ (exec_move _ rfl) ?_
  simp only [Act.put, Act.eval, Array.getD_eq_getD_getElem?, List.getElem?_toArray, List.getElem?_cons_succ, List.getElem?_cons_zero, Option.getD_some, List.setIfInBounds_toArray, List.set_cons_zero, List.set_cons_succ]
  refine wpList_plain rfl fun K hK => ?_; go_simp
  with_reducible refine (C3 g w2 hs2).out.mono ?_
  rintro e w3 ⟨rfl, hw3⟩
  refine hK _ _ ?_; clear hK
  (try simp only [Act.put, List.setIfInBounds_toArray, List.set_cons_zero, List.set_cons_succ])
  refine wpList_store_at at25w.i rfl (.tmp 2) (.tmp 9) rfl w.heap.size 0 25 (bvs (zb 32)) (bvs res) rfl rfl (hbz2.below hw3 hbz2.lt) (by rw [bvs_length]; exact HRL.out) (by rw [bvs_length, zb_length]; omega) (bvs_one _) ?_
  intro w4 hb4 hg4 hs4
  (try simp only [Act.put, List.setIfInBounds_toArray, List.set_cons_zero, List.set_cons_succ])
  refine wpList_nil ?_
  go_wp2_with fail
  (try simp only [Exit.inBlock, Exit.then])
  rw [splice_all _ _ (by rw [bvs_length, bvs_length, zb_length]; exact HRL.out.symm)] at hb4
  refine bodyPost_ret (ret_cell rfl at25w _ _ w.heap.size 25 (bvs res) rfl hb4 (by rw [bvs_length]; exact HRL.out)) rfl ?_
  exact ⟨rfl, (hw02.trans (hw3.mono hw02.size)).grown hg4 (by have := hw02.size; have := hw3.size; omega) (by intro k hk; cases hk; omega)⟩
end Go.Proofs.Ytehbahobkgoapaa
namespace Go.Proofs.Ytehbahobkgoapaa
open Go Go.RowKit Go.ChangeShapes Go.WideShapes Go.ChangeAt
set_option linter.unusedSimpArgs false
set_option linter.unusedVariables false
section
variable {P : Program} (w : World)
end
section
variable {P : Program} {H : Type} {enc : TypeId × Value → H} {W : World} {base : Nat}
end
theorem ab25 : AB Try.prog 25 32 := ⟨⟨5, Try.underlying25, Try.underlying5, by kernel_rfl⟩, by kernel_rfl⟩
end Go.Proofs.Ytehbahobkgoapaa
namespace Go.Proofs.Ytehbahobkgoapaa
open Go Go.RowKit
set_option linter.unusedSimpArgs false
set_option linter.unusedVariables false
theorem exec_neq_same {P : Program} {w : World} {a : Act} {o : Oper} {T T' n : Nat} (B : AB P T n) (x y : Operand) (ho : o.op = .binOp .neq T x y T') (xs : List UInt8) (ex : a.eval x = .agg (bvs xs).toArray) (ey : a.eval y = .agg (bvs xs).toArray) (hx : xs.length = n) :
    (execOp a.eval o).run P w = .ok (.value (.bool false)) w := by
  have h := exec_neq_arr (w := w) B x y ho xs xs ex ey hx hx
  rw [h]
  simp
end Go.Proofs.Ytehbahobkgoapaa
namespace Go.Proofs.Ytehbahobkgoapaa
open Go Go.RowKit
set_option linter.unusedSimpArgs false
set_option linter.unusedVariables false
section
variable {P : Program} {w : World} {ops : Array Oper} {o : Oper} {a : Act} {Q : Exit → Act → World → Prop}
theorem wp_append_bytes {T E S : TypeId} (B : BT P T E S) {K : Act → World → Prop} (s x : Operand) (ho : o.op = .call { callee := .builtin .append, args := #[s, x], argTypes := #[T, T] })
    (base : Nat) (v : Value) (l : List UInt8) (hs : a.eval s = v) (hown : OwnB w base E v l) (A : Option Addr) (m c : Nat) (y : List UInt8) (hx : a.eval x = .slice A m c) (hy : y.length = m) (hr : Rd w A (bvs y))
    (hbytes : l.length + m ≤ 140737488355328) (hbase : base ≤ w.heap.size)
    (h : ∀ v' w', OwnB w' base E v' (l ++ y) → w.grownBy w' v.ownBlock → (v'.ownBlock = v.ownBlock ∨ v'.ownBlock = some w.heap.size) → K (a.put o.dst v') w') : o.wp P a w K Q := by
  obtain ⟨v', w', hrun, h1, h2, h3⟩ := run_append_bytes B o.type base v l hown A m c y hy hr hbytes hbase
  unfold Oper.wp execOp
  simp only [ho, resolve, invoke, builtin, Sem.run_bind, Sem.run_pure, Result.andThen_ok, List.map_toArray, List.map_cons, List.map_nil, hs, hx, hrun]
  exact h v' w' h1 h2 h3
end
end Go.Proofs.Ytehbahobkgoapaa
namespace Go.Proofs.Ytehbahobkgoapaa
open Go Go.RowKit
set_option linter.unusedSimpArgs false
set_option linter.unusedVariables false
theorem OwnB.fr {S : Nat → Prop} {w w' : World} {base E : Nat} {v : Value} {l : List UInt8} (h : OwnB w base E v l) (hf : Fr S w w') (hv : ∀ k, v.ownBlock = some k → ¬ S k) : OwnB w' base E v l := by
  rcases h with h | ⟨g, sp, e, hg, hm, hb⟩
  · exact .inl h
  · exact .inr ⟨g, sp, e, hg, hm, hb.fr hf (hv g (by rw [e]; rfl))⟩
end Go.Proofs.Ytehbahobkgoapaa
namespace Go.Proofs.Ytehbahobkgoapaa
open Go Go.RowKit
set_option linter.unusedSimpArgs false
set_option linter.unusedVariables false
theorem Fr.cell {S : Nat → Prop} {a b : World} {p : Addr} {u : Value} (h : Fr S a b) (hc : a.cell? p = some u) (hp : ¬ S p.block) : b.cell? p = some u := by
  have hlt := World.block_lt_of_cell? a _ hc
  rw [World.cell?_of_block (h.block _ hlt hp)]
  exact hc
end Go.Proofs.Ytehbahobkgoapaa
namespace Go.Proofs.Ytehbahobkgoapaa
open Go Go.RowKit
set_option linter.unusedSimpArgs false
set_option linter.unusedVariables false
theorem Lft.to {S : Nat → Prop} {w : World} {A : Option Addr} {n c : Nat} {l : List UInt8} (h : Lft S w A n c l) (p : Nat) (hp : p ≤ n) : Lft S w A p c (l.take p) := by
  refine ⟨by rw [List.length_take, h.len]; omega, by have := h.cap; omega, h.max, ?_, h.far⟩
  have h1 := h.rd.take p
  unfold bvs at h1 ⊢
  rwa [← List.map_take] at h1
theorem exec_eql_same {P : Program} {w : World} {a : Act} {o : Oper} {T T' n : Nat} (B : AB P T n) (x y : Operand) (ho : o.op = .binOp .eql T x y T') (xs : List UInt8) (ex : a.eval x = .agg (bvs xs).toArray) (ey : a.eval y = .agg (bvs xs).toArray) (hx : xs.length = n) :
    (execOp a.eval o).run P w = .ok (.value (.bool true)) w := by
  have h := exec_eql_arr (w := w) B x y ho xs xs ex ey hx hx
  rw [h]
  simp
theorem bthen {B : Nat} {a b c : World} (h : Below B a b) (k : Below b.heap.size b c) (hB : B ≤ b.heap.size) : Below B a c := h.trans (k.mono hB)
end Go.Proofs.Ytehbahobkgoapaa
namespace Go.Proofs.Ytehbahobkgoapaa
open Go Go.RowKit
set_option linter.unusedSimpArgs false
set_option linter.unusedVariables false
def capOf : Value → Nat
  | .slice _ _ c => c
  | _ => 0
theorem sz24 : (Try.prog.info? 24).map (·.size) = some 1 := by kernel_rfl
theorem w24 : ∃ d, Try.prog.underlying 24 = some d ∧ d.isRow = false := ⟨_, Try.underlying24, rfl⟩
theorem exec_load24 {w : World} {a : Act} {o : Oper} (x : Operand) (ho : o.op = .load 24 x) (ad : Addr) (v : Value) (hx : a.eval x = .pointer (some ad)) (hc : w.cell? ad = some v) : (execOp a.eval o).run Try.prog w = .ok (.value v) w := by
  obtain ⟨d, hu, hd⟩ := w24
  exact exec_load_one hu hd x ho ad v hx hc
theorem exec_len30 {w : World} {a : Act} {o : Oper} (x : Operand) (ho : o.op = .call { callee := .builtin .len, args := #[x], argTypes := #[30] }) (A : Option Addr) (n c : Nat) (hx : a.eval x = .slice A n c) :
    (execOp a.eval o).run Try.prog w = .ok (.value (.int .i64 (n : Int))) w := by
  unfold execOp
  simp only [ho, resolve, invoke, builtin, Sem.run_bind, Sem.run_pure, Result.andThen_ok, List.map_toArray, List.map_cons, List.map_nil, hx]
  go_simp
theorem one_lft8 {w : World} {g : Nat} (x : UInt8) (hg : g < w.heap.size) : Lft (· = g) (w.alloc (.cells #[.int .u8 (x.toNat : Int)] 5)) (some ⟨w.heap.size, 0, none⟩) 1 1 [x] := one_lft x _ rfl hg
set_option maxRecDepth 100000 in
set_option maxHeartbeats 4000000 in
theorem tagof_any (t : UInt8) (A : Option Addr) (n c : Nat) (vs : List Value) (ls : List (List UInt8)) (w : World) (hl : ls.length = n) (hr : Rd w A vs) (ha : AllRd w vs ls) (hmx : ∀ (i : Nat) (v : Value), vs[i]? = some v → capOf v ≤ maxLen)
    (hn : n ≤ 1099511627776) (hb : ls.flatten.length + 1 ≤ 140737488355328) :
    Calls Try.prog 88 #[.int .u8 (t.toNat : Int), .slice A n c] w fun e w' => e = .returned (arr8 (shaL (t :: ls.flatten))) ∧ Below w.heap.size w w' := by
  have HL := Lib.hid hl
  have HM := Lib.hid hmx
  have hbz : Blk (w.alloc (.cells (bvs (zb 32)).toArray 25)) w.heap.size 25 (bvs (zb 32)) := Blk.new _ _ _
  have hw0 : Below w.heap.size w (w.alloc (.cells (bvs (zb 32)).toArray 25)) := (Below.refl _ _).alloc (Nat.le_refl _) _
  have C1 := fun u => Lib.hid (new_state u)
  have HRL : Hid ((shaL (t :: ls.flatten)).length = 32) := Lib.hid (shaL_length _)
  have C3 := fun (g : Nat) (u : World) (h : St u g (t :: ls.flatten)) => Lib.hid (sum_state g (t :: ls.flatten) u h (by simp only [List.length_cons]; omega))
  clear hl hmx
  generalize shaL (t :: ls.flatten) = res at *
  unfold arr8 at *
  go_enter Try.func88, Try.ntmps88
  go_upto_region 1 with fail
  generalize hW : World.alloc w _ = w0
  have h3 : Blk w0 w.heap.size 25 (bvs (zb 32)) ∧ Below w.heap.size w w0 := by rw [← hW]; exact ⟨hbz, hw0⟩
  clear hW hbz hw0
  obtain ⟨hbz, hw0⟩ := h3
  have hz := hbz.lt
  go_upto_region 2 with (first
    | (go_at_call 83; with_reducible refine (C1 _).out.mono ?_; rintro e w1 ⟨g, rfl, hg, hs1, hw1⟩))
  have hg1 := hs1.lt
  have hs1a : St (w1.alloc (.cells #[.int .u8 (t.toNat : Int)] 5)) g [] := hs1.below ((Below.refl _ _).alloc (Nat.le_refl _) _)
  have W1 := Lib.hid (write_one g [] (some ⟨w1.heap.size, 0, none⟩) 1 t _ hs1a (one_lft8 t hg1) (by simp))
  refine wp_region_lit ?_
  refine wpList_yield rfl _ (exec_move _ rfl) ?_
  simp only [Act.put, Act.eval, Array.getD_eq_getD_getElem?, List.getElem?_toArray, List.getElem?_cons_succ, List.getElem?_cons_zero, Option.getD_some, List.setIfInBounds_toArray, List.set_cons_zero, List.set_cons_succ]
  refine wpList_yield rfl _ (exec_move _ rfl) ?_
  simp only [Act.put, Act.eval, Array.getD_eq_getD_getElem?, List.getElem?_toArray, List.getElem?_cons_succ, List.getElem?_cons_zero, Option.getD_some, List.setIfInBounds_toArray, List.set_cons_zero, List.set_cons_succ]
  refine wpList_plain rfl fun K hK => ?_; go_simp
  refine hK _ _ ?_; clear hK
  (try simp only [Act.put, List.setIfInBounds_toArray, List.set_cons_zero, List.set_cons_succ])
  refine wpList_plain rfl fun K hK => ?_; go_simp
  with_reducible refine W1.out.mono ?_
  rintro e w2 ⟨rfl, hs2, hf2⟩
  refine hK _ _ ?_; clear hK
  (try simp only [Act.put, List.setIfInBounds_toArray, List.set_cons_zero, List.set_cons_succ])
  refine wpList_nil ?_
  rw [List.nil_append] at hs2
  have hb1 : Below w.heap.size w (w1.alloc (.cells #[.int .u8 (t.toNat : Int)] 5)) := (hw0.trans (hw1.mono hw0.size)).alloc (by have := hw1.size; omega) _
  have hgw : w.heap.size < g := by omega
  have hb2 : Below w.heap.size w w2 := hb1.trans (fr_below hf2 (fun k e => by rw [e]; omega) hb1.size)
  have hz2 : Blk w2 w.heap.size 25 (bvs (zb 32)) := ((hbz.below hw1 hz).alloc _).fr hf2 (fun e => by omega)
  have hs2' : St w2 g (t :: (ls.take 0).flatten) := by simpa using hs2
  clear W1 hs1 hs1a hf2 hb1 hg1 hbz hw0 hz hw1 C1 hs2
  go_upto_region 3 with fail
  refine wp_region_lit ?_
  refine wpList_yield rfl _ (exec_move _ rfl) ?_
  simp only [Act.put, Act.eval, Array.getD_eq_getD_getElem?, List.getElem?_toArray, List.getElem?_cons_succ, List.getElem?_cons_zero, Option.getD_some, List.setIfInBounds_toArray, List.set_cons_zero, List.set_cons_succ]
  refine wpList_yield rfl _ (exec_len30 _ rfl A n c rfl) ?_
  simp only [Act.put, List.setIfInBounds_toArray, List.set_cons_zero, List.set_cons_succ]
  refine wpList_yield rfl _ (exec_move _ rfl) ?_
  simp only [Act.put, Act.eval, Array.getD_eq_getD_getElem?, List.getElem?_toArray, List.getElem?_cons_succ, List.getElem?_cons_zero, Option.getD_some, List.setIfInBounds_toArray, List.set_cons_zero, List.set_cons_succ]
  refine wpList_nil ?_
  go_wp2_with fail
  go_loopw [15] (fun i wr => ∃ k : Nat, k ≤ n ∧ i = .int .i64 (k : Int) ∧ St wr g (t :: (ls.take k).flatten) ∧ Blk wr w.heap.size 25 (bvs (zb 32)) ∧ Below w.heap.size w wr) (fun i _ => n - (intOf i).toNat)
  case atStart => exact ⟨0, by omega, by go_num, hs2', hz2, hb2⟩
  case round =>
    clear hs2' hz2 hb2
    obtain ⟨k, hk, rfl, hs2, hz2, hb2⟩ := hrel
    by_cases hlt : k < n
    · have hltz : (k : Int) < (n : Int) := by omega
      have hkl : k < ls.length := by rw [HL.out]; exact hlt
      obtain ⟨v, hv⟩ : ∃ v, vs[k]? = some v := ⟨_, List.getElem?_eq_getElem (by have := ha.1; omega)⟩
      obtain ⟨ad, rfl, hcc⟩ := hr (by have := ha.1; omega)
      have hc := Lib.hid ((hb2.cell (World.block_lt_of_cell? w _ (hcc k v hv))).trans (hcc k v hv))
      obtain ⟨A1, d1, rfl, hd1, hrd⟩ := ha.2 k v ls[k] hv (List.getElem?_eq_getElem hkl)
      have hlen := flatten_take_len ls k hkl
      have HF := Lib.hid (flatten_take_succ ls k hkl)
      have hmd : d1 ≤ maxLen := HM.out k _ hv
      have W2 := Lib.hid (write_state g (t :: (ls.take k).flatten) A1 ls[k].length d1 ls[k] wr hs2 rfl (fun h0 => rd_lft hrd rfl hd1 hmd h0 hb2 (Nat.le_of_lt hgw)) (by simp only [List.length_cons]; omega))
      go_upto_region 5 with fail
      refine wp_region_lit ?_
      refine wpList_yield rfl _ (exec_sia Try.underlying30 sz24 _ _ rfl ad n c k _ rfl rfl hlt) ?_
      simp only [Act.put, List.setIfInBounds_toArray, List.set_cons_zero, List.set_cons_succ]
      refine wpList_yield rfl _ (exec_load24 _ rfl _ _ rfl hc.out) ?_
      simp only [Act.put, List.setIfInBounds_toArray, List.set_cons_zero, List.set_cons_succ]
      refine wpList_yield rfl _ (exec_assign _ rfl) ?_
      simp only [Act.put, Act.eval, Array.getD_eq_getD_getElem?, List.getElem?_toArray, List.getElem?_cons_succ, List.getElem?_cons_zero, Option.getD_some, List.setIfInBounds_toArray, List.set_cons_zero, List.set_cons_succ]
      refine wpList_nil ?_
      go_wp2_with (first
        | (go_at_call 84; with_reducible refine W2.out.mono ?_; rintro e w3 ⟨rfl, hs3, hf3⟩))
      go_roundw
      case rel =>
        refine ⟨k + 1, by omega, by go_num, ?_, hz2.fr hf3 (fun e => by omega), hb2.trans (fr_below hf3 (fun k e => by rw [e]; omega) hb2.size)⟩
        rw [HF.out]
        exact hs3
      case measure => simp only [intOf]; omega
    · obtain rfl : k = n := by omega
      have hs3 : St wr g (t :: ls.flatten) := by rwa [List.take_of_length_le (by rw [HL.out]; exact Nat.le_refl _)] at hs2
      go_upto_region 8 with fail
      refine wp_region_lit ?_
      refine wpList_yield rfl _ (exec_move _ rfl) ?_
      simp only [Act.put, Act.eval, Array.getD_eq_getD_getElem?, List.getElem?_toArray, List.getElem?_cons_succ, List.getElem?_cons_zero, Option.getD_some, List.setIfInBounds_toArray, List.set_cons_zero, List.set_cons_succ]
      refine wpList_plain rfl fun K hK => ?_; go_simp
      with_reducible refine (C3 g wr hs3).out.mono ?_
      rintro e w3 ⟨rfl, hw3⟩
      refine hK _ _ ?_; clear hK
      (try simp only [Act.put, List.setIfInBounds_toArray, List.set_cons_zero, List.set_cons_succ])
      refine wpList_store_at at25w.i rfl (.tmp 4) (.tmp 24) rfl w.heap.size 0 25 (bvs (zb 32)) (bvs res) rfl rfl (hz2.below hw3 hz2.lt) (by rw [bvs_length]; exact HRL.out) (by rw [bvs_length, zb_length]; omega) (bvs_one _) ?_
      intro w4 hb4 hg4 hs4
      (try simp only [Act.put, List.setIfInBounds_toArray, List.set_cons_zero, List.set_cons_succ])
      refine wpList_nil ?_
      go_wp2_with fail
      (try simp only [Exit.inBlock, Exit.then])
      rw [splice_all _ _ (by rw [bvs_length, bvs_length, zb_length]; exact HRL.out.symm)] at hb4
      refine bodyPost_ret (ret_cell rfl at25w _ _ w.heap.size 25 (bvs res) rfl hb4 (by rw [bvs_length]; exact HRL.out)) rfl ?_
      exact ⟨rfl, (hb2.trans (hw3.mono hb2.size)).grown hg4 (by have := hb2.size; have := hw3.size; omega) (by intro k hk; cases hk; omega)⟩
theorem tagof_is (t : UInt8) (z : Int) (hz : (t.toNat : Int) = z) (A : Option Addr) (n c : Nat) (vs : List Value) (ls : List (List UInt8)) (w : World) (hl : ls.length = n) (hr : Rd w A vs) (ha : AllRd w vs ls) (hmx : ∀ (i : Nat) (v : Value), vs[i]? = some v → capOf v ≤ maxLen)
    (hn : n ≤ 1099511627776) (hb : ls.flatten.length + 1 ≤ 140737488355328) :
    Calls Try.prog 88 #[.int .u8 z, .slice A n c] w fun e w' => e = .returned (arr8 (shaL (t :: ls.flatten))) ∧ Below w.heap.size w w' := by
  subst hz
  exact tagof_any t A n c vs ls w hl hr ha hmx hn hb
/-- Two arrays of 32 bytes in blocks, and the slices of them in a row. -/
theorem two_slices (u : World) (k v : List UInt8) (tk tv : TypeId) (g h : Nat) (hk : Blk u g tk (bvs k)) (hv : Blk u h tv (bvs v)) (lk : k.length = 32) (lv : v.length = 32) :
    Rd (u.alloc (.cells #[.slice (some ⟨g, 0, none⟩) 32 32, .slice (some ⟨h, 0, none⟩) 32 32] 24)) (some ⟨u.heap.size, 0, none⟩) [.slice (some ⟨g, 0, none⟩) 32 32, .slice (some ⟨h, 0, none⟩) 32 32] ∧
    AllRd (u.alloc (.cells #[.slice (some ⟨g, 0, none⟩) 32 32, .slice (some ⟨h, 0, none⟩) 32 32] 24)) [.slice (some ⟨g, 0, none⟩) 32 32, .slice (some ⟨h, 0, none⟩) 32 32] [k, v] ∧
    (∀ (i : Nat) (x : Value), [Value.slice (some ⟨g, 0, none⟩) 32 32, .slice (some ⟨h, 0, none⟩) 32 32][i]? = some x → capOf x ≤ maxLen) := by
  refine ⟨Rd.of_blk0 (es := []) (by simpa using Blk.new u 24 [.slice (some ⟨g, 0, none⟩) 32 32, .slice (some ⟨h, 0, none⟩) 32 32]), AllRd.cons ⟨_, 32, by rw [lk], by omega, ?_⟩ (AllRd.cons ⟨_, 32, by rw [lv], by omega, ?_⟩ (AllRd.nil _)), ?_⟩
  · exact (Rd.of_blk0 (es := []) (by simpa using hk)).alloc _
  · exact (Rd.of_blk0 (es := []) (by simpa using hv)).alloc _
  · intro i x hx
    have hm : (32 : Nat) ≤ maxLen := by unfold maxLen; omega
    match i, hx with
    | 0, hx => cases hx; exact hm
    | 1, hx => cases hx; exact hm
    | i + 2, hx => simp at hx
end Go.Proofs.Ytehbahobkgoapaa
namespace Go.Proofs.Ytehbahobkgoapaa
open Go Go.RowKit
set_option linter.unusedSimpArgs false
set_option linter.unusedVariables false
/-- A text that can be read. -/
def Tx (w : World) (A : Option Addr) (n c : Nat) (l : List UInt8) : Prop := Lft (fun _ => False) w A n c l
theorem Tx.below {w w' : World} {A : Option Addr} {n c : Nat} {l : List UInt8} (h : Tx w A n c l) (hb : Below w.heap.size w w') : Tx w' A n c l := ⟨h.len, h.cap, h.max, h.rd.below hb, fun _ _ h => h⟩
theorem Tx.alloc {w : World} {A : Option Addr} {n c : Nat} {l : List UInt8} (h : Tx w A n c l) (o : Obj) : Tx (w.alloc o) A n c l := h.below ((Below.refl _ _).alloc (Nat.le_refl _) o)
theorem sum_tx (A : Option Addr) (n c : Nat) (l : List UInt8) (w : World) (h : Tx w A n c l) (hn : n ≤ 1152921504606846976) : Calls Try.prog 79 #[.slice A n c] w fun e w' => e = .returned (arr8 (shaL l)) ∧ Below w.heap.size w w' :=
  sum_any A n c l w h.rd h.len h.cap h.max hn
theorem exec_eql_to {P : Program} {w : World} {a : Act} {o : Oper} {T T' n : Nat} {b : Bool} (B : AB P T n) (x y : Operand) (ho : o.op = .binOp .eql T x y T') (xs ys : List UInt8) (ex : a.eval x = .agg (bvs xs).toArray) (ey : a.eval y = .agg (bvs ys).toArray) (hx : xs.length = n) (hy : ys.length = n) (h : (xs == ys) = b) :
    (execOp a.eval o).run P w = .ok (.value (.bool b)) w := by rw [exec_eql_arr B x y ho xs ys ex ey hx hy, h]
end Go.Proofs.Ytehbahobkgoapaa
namespace Go.Proofs.Ytehbahobkgoapaa
open Go Go.RowKit
set_option linter.unusedSimpArgs false
set_option linter.unusedVariables false
def firstH : List UInt8 := shaL [4]
def nextH (h r : List UInt8) : List UInt8 := shaL (5 :: (h ++ r))
def foldH (h : List UInt8) (ls : List (List UInt8)) : List UInt8 := ls.foldl nextH h
theorem firstH_length : firstH.length = 32 := shaL_length _
theorem nextH_length (h r : List UInt8) : (nextH h r).length = 32 := shaL_length _
theorem foldH_length (h : List UInt8) (ls : List (List UInt8)) (hh : h.length = 32) : (foldH h ls).length = 32 := by
  induction ls generalizing h with
  | nil => exact hh
  | cons r ls ih => exact ih _ (nextH_length _ _)
theorem foldH_take (h : List UInt8) (ls : List (List UInt8)) (k : Nat) (hk : k < ls.length) : foldH h (ls.take (k + 1)) = nextH (foldH h (ls.take k)) (ls.getD k []) := by
  rw [List.take_succ_eq_append_getElem hk]
  unfold foldH
  rw [List.foldl_append, List.getD_eq_getElem?_getD, List.getElem?_eq_getElem hk]
  rfl
theorem flat32_len (ls : List (List UInt8)) (h : ∀ l ∈ ls, l.length = 32) : ls.flatten.length = 32 * ls.length := by
  induction ls with
  | nil => rfl
  | cons l ls ih =>
    rw [List.flatten_cons, List.length_append, h l (by simp), ih (fun x hx => h x (by simp [hx])), List.length_cons]
    omega
theorem flat32_get (ls : List (List UInt8)) (h : ∀ l ∈ ls, l.length = 32) (i : Nat) (hi : i < ls.length) : (ls.flatten.drop (i * 32)).take 32 = ls.getD i [] := by
  induction ls generalizing i with
  | nil => simp at hi
  | cons l ls ih =>
    have hl := h l (by simp)
    rw [List.flatten_cons]
    cases i with
    | zero => rw [Nat.zero_mul, List.drop_zero, List.take_append_of_le_length (by omega), List.take_of_length_le (by omega)]; rfl
    | succ i =>
      rw [List.drop_append, List.drop_eq_nil_of_le (by omega), List.nil_append, show (i + 1) * 32 - l.length = i * 32 by omega, ih (fun x hx => h x (by simp [hx])) i (by simpa using hi)]
      rfl
theorem flat32_take (ls : List (List UInt8)) (h : ∀ l ∈ ls, l.length = 32) (k : Nat) (hk : k ≤ ls.length) : ls.flatten.take (32 * k) = (ls.take k).flatten := by
  induction ls generalizing k with
  | nil => simp
  | cons l ls ih =>
    have hl := h l (by simp)
    cases k with
    | zero => simp
    | succ k =>
      rw [List.flatten_cons, List.take_succ_cons, List.flatten_cons, List.take_append, List.take_of_length_le (by omega), show 32 * (k + 1) - l.length = 32 * k by omega, ih (fun x hx => h x (by simp [hx])) k (by simpa using hk)]
/-- A list of digests that can be read. -/
structure Hl (w : World) (A : Option Addr) (n c : Nat) (ls : List (List UInt8)) : Prop where
  len : ls.length = n
  cap : n ≤ c
  max : c ≤ maxLen
  rd : Rd w A (bvs ls.flatten)
  each : ∀ l ∈ ls, l.length = 32
theorem Hl.below {w w' : World} {A : Option Addr} {n c : Nat} {ls : List (List UInt8)} (h : Hl w A n c ls) (hb : Below w.heap.size w w') : Hl w' A n c ls := ⟨h.len, h.cap, h.max, h.rd.below hb, h.each⟩
theorem Hl.at {w : World} {A : Option Addr} {n c : Nat} {ls : List (List UInt8)} (h : Hl w A n c ls) (i : Nat) (hi : i < n) : ∃ ad, A = some ad ∧ Rd w (some (ad.add (i * 32))) (bvs (ls.getD i [])) ∧ (ls.getD i []).length = 32 := by
  have hf := flat32_len ls h.each
  have hl := h.len
  obtain ⟨ad, hA, _⟩ := h.rd.at_ (k := 0) (by rw [bvs_length, hf]; omega)
  have hc := h.rd.cut (i * 32) 32
  have e : ((bvs ls.flatten).drop (i * 32)).take 32 = bvs (ls.getD i []) := by
    unfold bvs
    rw [← List.map_drop, ← List.map_take, flat32_get ls h.each i (by omega)]
  rw [e, hA] at hc
  refine ⟨ad, hA, hc, ?_⟩
  rw [List.getD_eq_getElem?_getD, List.getElem?_eq_getElem (by omega)]
  exact h.each _ (List.getElem_mem (by omega))
theorem Hl.to {w : World} {A : Option Addr} {n c : Nat} {ls : List (List UInt8)} (h : Hl w A n c ls) (k : Nat) (hk : k ≤ n) : Hl w A k c (ls.take k) := by
  have hl := h.len
  refine ⟨by rw [List.length_take]; omega, by have := h.cap; omega, h.max, ?_, fun l hl => h.each l (List.mem_of_mem_take hl)⟩
  have h1 := h.rd.take (32 * k)
  rw [← flat32_take ls h.each k (by omega)]
  unfold bvs at h1 ⊢
  rwa [← List.map_take] at h1
theorem exec_siaz {P : Program} {w : World} {a : Act} {o : Oper} {t e : TypeId} {z : Nat} (hu : P.underlying t = some (.slice e)) (hz : (P.info? e).map (·.size) = some z) (x y : Operand) (ho : o.op = .indexAddr t x y) (ad : Addr) (n c i : Nat) (k : IntKind) (hx : a.eval x = .slice (some ad) n c) (hy : a.eval y = .int k (i : Int)) (hi : i < n) :
    (execOp a.eval o).run P w = .ok (.value (.pointer (some (ad.add (i * z))))) w := by
  have he : P.elem t = e := by simp [Program.elem, hu]
  have hs : (sizeOf e).run P w = .ok z w := by
    cases hq : P.info? e with
    | none => simp [hq] at hz
    | some j =>
      simp [hq] at hz
      simp [sizeOf, typeInfo, hq, hz]
  have hr := run_indexAt_slice (P := P) w t ad n c k (i : Int) (by rw [he]; exact hu)
  rw [he, if_pos (by omega), hs] at hr
  simp only [Result.andThen_ok, Int.toNat_natCast] at hr
  unfold execOp
  simp only [ho, hx, hy, Sem.run_bind, hr, Result.andThen_ok, Sem.run_pure]
theorem sz25 : (Try.prog.info? 25).map (·.size) = some 32 := by kernel_rfl
theorem exec_len132 {w : World} {a : Act} {o : Oper} (x : Operand) (ho : o.op = .call { callee := .builtin .len, args := #[x], argTypes := #[132] }) (A : Option Addr) (n c : Nat) (hx : a.eval x = .slice A n c) :
    (execOp a.eval o).run Try.prog w = .ok (.value (.int .i64 (n : Int))) w := by
  unfold execOp
  simp only [ho, resolve, invoke, builtin, Sem.run_bind, Sem.run_pure, Result.andThen_ok, List.map_toArray, List.map_cons, List.map_nil, hx]
  go_simp
set_option maxRecDepth 100000 in
set_option maxHeartbeats 1000000 in
theorem cfirst_any (w : World) : Calls Try.prog 106 #[] w fun e w' => e = .returned (arr8 (shaL [4])) ∧ Below w.heap.size w w' := by
  have hbz : Blk (w.alloc (.cells (bvs (zb 32)).toArray 25)) w.heap.size 25 (bvs (zb 32)) := Blk.new _ _ _
  have hw0 : Below w.heap.size w (w.alloc (.cells (bvs (zb 32)).toArray 25)) := (Below.refl _ _).alloc (Nat.le_refl _) _
  have C := fun u => Lib.hid (tagof_is 4 4 rfl none 0 0 [] [] u rfl (Rd.nil _ _) (AllRd.nil _) (fun i v h => by simp at h) (by omega) (by simp))
  have HRL : Hid ((shaL [4]).length = 32) := Lib.hid (shaL_length _)
  rw [show (4 : UInt8) :: ([] : List (List UInt8)).flatten = [4] from rfl] at C
  generalize shaL [4] = res at *
  unfold arr8 at *
  go_enter Try.func106, Try.ntmps106
  go_upto_region 1 with fail
  refine wp_region_lit ?_
  refine wpList_plain rfl fun K hK => ?_; go_simp
  refine (C _).out.mono ?_
  rintro e w3 ⟨rfl, hw3⟩
  refine hK _ _ ?_; clear hK
  (try simp only [Act.put, List.setIfInBounds_toArray, List.set_cons_zero, List.set_cons_succ])
  refine wpList_store_at at25w.i rfl (.tmp 0) (.tmp 1) rfl w.heap.size 0 25 (bvs (zb 32)) (bvs res) rfl rfl (hbz.below hw3 hbz.lt) (by rw [bvs_length]; exact HRL.out) (by rw [bvs_length, zb_length]; omega) (bvs_one _) ?_
  intro w4 hb4 hg4 hs4
  (try simp only [Act.put, List.setIfInBounds_toArray, List.set_cons_zero, List.set_cons_succ])
  refine wpList_nil ?_
  go_wp2_with fail
  (try simp only [Exit.inBlock, Exit.then])
  rw [splice_all _ _ (by rw [bvs_length, bvs_length, zb_length]; exact HRL.out.symm)] at hb4
  refine bodyPost_ret (ret_cell rfl at25w _ _ w.heap.size 25 (bvs res) rfl hb4 (by rw [bvs_length]; exact HRL.out)) rfl ?_
  exact ⟨rfl, (hw0.trans (hw3.mono hw0.size)).grown hg4 (Nat.le_trans hw0.size hw3.size) (by intro k hk; cases hk; omega)⟩
set_option maxRecDepth 100000 in
set_option maxHeartbeats 2000000 in
theorem cnext_any (k v : List UInt8) (w : World) (lk : k.length = 32) (lv : v.length = 32) :
    Calls Try.prog 108 #[arr8 k, arr8 v] w fun e w' => e = .returned (arr8 (shaL (5 :: (k ++ v)))) ∧ Below w.heap.size w w' := by
  have b1 : Blk (w.alloc (.cells (bvs k).toArray 25)) w.heap.size 25 (bvs k) := Blk.new _ _ _
  have b2 : Blk ((w.alloc (.cells (bvs k).toArray 25)).alloc (.cells (bvs v).toArray 25)) (w.heap.size + 1) 25 (bvs v) := by
    have := Blk.new (w.alloc (.cells (bvs k).toArray 25)) 25 (bvs v)
    rwa [show (w.alloc (.cells (bvs k).toArray 25)).heap.size = w.heap.size + 1 by simp] at this
  have b3 : Blk (((w.alloc (.cells (bvs k).toArray 25)).alloc (.cells (bvs v).toArray 25)).alloc (.cells (bvs (zb 32)).toArray 25)) (w.heap.size + 2) 25 (bvs (zb 32)) := by
    have := Blk.new ((w.alloc (.cells (bvs k).toArray 25)).alloc (.cells (bvs v).toArray 25)) 25 (bvs (zb 32))
    rwa [show ((w.alloc (.cells (bvs k).toArray 25)).alloc (.cells (bvs v).toArray 25)).heap.size = w.heap.size + 2 by simp] at this
  have hall := And.intro ((b1.alloc (.cells (bvs v).toArray 25)).alloc (.cells (bvs (zb 32)).toArray 25)) (And.intro (b2.alloc (.cells (bvs (zb 32)).toArray 25)) (And.intro b3
    ((((Below.refl w.heap.size w).alloc (Nat.le_refl _) (.cells (bvs k).toArray 25)).alloc (by simp) (.cells (bvs v).toArray 25)).alloc (by simp; omega) (.cells (bvs (zb 32)).toArray 25))))
  clear b1 b2 b3
  have C := fun (u : World) (A : Option Addr) (vs : List Value) (hr : Rd u A vs) (ha : AllRd u vs [k, v]) (hm : ∀ (i : Nat) (x : Value), vs[i]? = some x → capOf x ≤ maxLen) => Lib.hid (tagof_is 5 5 rfl A 2 2 vs [k, v] u rfl hr ha hm (by omega) (by simp [lk, lv]))
  have HRL : Hid ((shaL (5 :: (k ++ v))).length = 32) := Lib.hid (shaL_length _)
  rw [show (5 : UInt8) :: [k, v].flatten = 5 :: (k ++ v) by simp] at C
  generalize shaL (5 :: (k ++ v)) = res at *
  unfold arr8 at *
  go_enter Try.func108, Try.ntmps108
  go_upto_region 1 with fail
  generalize hW : World.alloc (World.alloc (World.alloc w _) _) _ = w0
  have h3 : Blk w0 w.heap.size 25 (bvs k) ∧ Blk w0 (w.heap.size + 1) 25 (bvs v) ∧ Blk w0 (w.heap.size + 2) 25 (bvs (zb 32)) ∧ Below w.heap.size w w0 := by rw [← hW]; exact hall
  clear hall hW
  obtain ⟨c1, c2, c3, c4⟩ := h3
  have T := two_slices w0.drew k v 25 25 w.heap.size (w.heap.size + 1) c1.drew c2.drew lk lv
  have T2 := Lib.hid T
  clear T
  refine rg_begin (Any) [4] [2, 3, 4] [0, 1, 2, 3, 4] 0 mixed (by kernel_rfl) (fun _ _ _ _ e hh => ⟨e.symm.trans hh.1, hh.2⟩) ?_
  simp only [pick, List.map_cons, List.map_nil, List.getD_cons_zero, List.getD_cons_succ]
  have hS : (Any) _ := any_at w0.drew
  refine rg_take rfl rfl hS (fun W hW => exec_arr_all ia25 _ rfl w.heap.size 0 rfl) ?_
  simp only [Act.put, List.setIfInBounds_toArray, List.set_cons_zero, List.set_cons_succ]
  refine rg_take rfl rfl hS (fun W hW => exec_arr_all ia25 _ rfl (w.heap.size + 1) 0 rfl) ?_
  simp only [Act.put, List.setIfInBounds_toArray, List.set_cons_zero, List.set_cons_succ]
  refine rg_one rfl rfl ?_; intro K hK; go_simp
  have hS1 := any_at (w0.drew.alloc (.cells #[.slice (some ⟨w.heap.size, 0, none⟩) 32 32, .slice (some ⟨w.heap.size + 1, 0, none⟩) 32 32] 24))
  refine hK _ _ (fun _ => hS1) ?_; clear hK
  refine rg_one rfl rfl ?_; intro K hK; go_simp
  refine (C _ _ _ T2.out.1 T2.out.2.1 T2.out.2.2).out.mono ?_
  rintro e w3 ⟨rfl, hw3⟩
  have hS2 := any_at w3
  refine hK _ _ (fun _ => hS2) ?_; clear hK
  refine rg_one rfl rfl ?_; intro K hK
  refine wp_store_at at25w.i (.tmp 4) (.tmp 8) rfl (w.heap.size + 2) 0 25 (bvs (zb 32)) (bvs res) rfl rfl ((c3.drew.alloc _).below hw3 (c3.drew.alloc _).lt) (by rw [bvs_length]; exact HRL.out) (by rw [bvs_length, zb_length]; omega) (bvs_one _) ?_
  intro w4 hb4 hg4 hs4
  refine hK _ _ (fun h => by cases h) ?_; clear hK
  refine rg_done (by kernel_rfl) ?_
  have c5 : Below w.heap.size w (w0.drew.alloc (.cells #[.slice (some ⟨w.heap.size, 0, none⟩) 32 32, .slice (some ⟨w.heap.size + 1, 0, none⟩) 32 32] 24)) := c4.drew.alloc (by have := c4.size; simpa using this) _
  go_wp2_with fail
  (try simp only [Exit.inBlock, Exit.then])
  rw [splice_all _ _ (by rw [bvs_length, bvs_length, zb_length]; exact HRL.out.symm)] at hb4
  refine bodyPost_ret (ret_cell rfl at25w _ _ (w.heap.size + 2) 25 (bvs res) rfl hb4 (by rw [bvs_length]; exact HRL.out)) rfl ?_
  exact ⟨rfl, (c5.trans (hw3.mono c5.size)).grown hg4 (Nat.le_trans c5.size hw3.size) (by intro k hk; cases hk; omega)⟩
set_option maxRecDepth 100000 in
set_option maxHeartbeats 4000000 in
theorem fold_any (h : List UInt8) (A : Option Addr) (n c : Nat) (ls : List (List UInt8)) (w : World) (lh : h.length = 32) (hl : Hl w A n c ls) :
    Calls Try.prog 105 #[arr8 h, .slice A n c] w fun e w' => e = .returned (arr8 (foldH h ls)) ∧ Below w.heap.size w w' := by
  have HN := Lib.hid hl.len
  have hnm : n ≤ maxLen := Nat.le_trans hl.cap hl.max
  unfold maxLen at hnm
  have b1 : Blk (w.alloc (.cells (bvs h).toArray 25)) w.heap.size 25 (bvs h) := Blk.new _ _ _
  have b2 : Blk ((w.alloc (.cells (bvs h).toArray 25)).alloc (.cells (bvs (zb 32)).toArray 25)) (w.heap.size + 1) 25 (bvs (zb 32)) := by
    have := Blk.new (w.alloc (.cells (bvs h).toArray 25)) 25 (bvs (zb 32))
    rwa [show (w.alloc (.cells (bvs h).toArray 25)).heap.size = w.heap.size + 1 by simp] at this
  have hall : Blk ((w.alloc (.cells (bvs h).toArray 25)).alloc (.cells (bvs (zb 32)).toArray 25)) w.heap.size 25 (bvs h) ∧ Blk ((w.alloc (.cells (bvs h).toArray 25)).alloc (.cells (bvs (zb 32)).toArray 25)) (w.heap.size + 1) 25 (bvs (zb 32)) ∧ Below w.heap.size w ((w.alloc (.cells (bvs h).toArray 25)).alloc (.cells (bvs (zb 32)).toArray 25)) := ⟨(b1.alloc (.cells (bvs (zb 32)).toArray 25)), b2, (((Below.refl w.heap.size w).alloc (by first | exact Nat.le_refl _ | (simp; done) | (simp; omega)) (.cells (bvs h).toArray 25)).alloc (by first | exact Nat.le_refl _ | (simp; done) | (simp; omega)) (.cells (bvs (zb 32)).toArray 25))⟩
  clear b1 b2
  have HRL : Hid ((foldH h ls).length = 32) := Lib.hid (foldH_length h ls lh)
  have HL := Lib.hid (fun k => foldH_length h (ls.take k) lh)
  have HT := Lib.hid (foldH_take h ls)
  have HX := fun (x y : List UInt8) (u : World) (hx : x.length = 32) (hy : y.length = 32) => Lib.hid (cnext_any x y u hx hy)
  have HE : Hid (foldH h (ls.take n) = foldH h ls) := Lib.hid (by rw [List.take_of_length_le (by rw [hl.len]; exact Nat.le_refl _)])
  have H0 : foldH h (ls.take 0) = h := rfl
  have h0 := Lib.hid H0
  clear H0 lh
  generalize foldH h ls = res at *
  unfold arr8 at *
  go_enter Try.func105, Try.ntmps105
  go_upto_region 1 with fail
  generalize hW : World.alloc (World.alloc w _) _ = w0
  have h3 : Blk w0 w.heap.size 25 (bvs h) ∧ Blk w0 (w.heap.size + 1) 25 (bvs (zb 32)) ∧ Below w.heap.size w w0 := by rw [← hW]; exact hall
  clear hall hW
  obtain ⟨c1, c2, c0⟩ := h3
  refine wp_region_lit ?_
  refine wpList_yield rfl _ (exec_move _ rfl) ?_
  simp only [Act.put, Act.eval, Array.getD_eq_getD_getElem?, List.getElem?_toArray, List.getElem?_cons_succ, List.getElem?_cons_zero, Option.getD_some, List.setIfInBounds_toArray, List.set_cons_zero, List.set_cons_succ]
  refine wpList_yield rfl _ (exec_len132 _ rfl A n c rfl) ?_
  simp only [Act.put, List.setIfInBounds_toArray, List.set_cons_zero, List.set_cons_succ]
  refine wpList_yield rfl _ (exec_move _ rfl) ?_
  simp only [Act.put, Act.eval, Array.getD_eq_getD_getElem?, List.getElem?_toArray, List.getElem?_cons_succ, List.getElem?_cons_zero, Option.getD_some, List.setIfInBounds_toArray, List.set_cons_zero, List.set_cons_succ]
  refine wpList_nil ?_
  go_wp2_with fail
  go_loopw [9] (fun i wr => ∃ k : Nat, k ≤ n ∧ i = .int .i64 (k : Int) ∧ Blk wr w.heap.size 25 (bvs (foldH h (ls.take k))) ∧ Blk wr (w.heap.size + 1) 25 (bvs (zb 32)) ∧ Below w.heap.size w wr) (fun i _ => n - (intOf i).toNat)
  case atStart => exact ⟨0, by omega, by go_num, by rw [h0.out]; exact c1, c2, c0⟩
  case round =>
    clear c0 c1 c2
    obtain ⟨k, hk, rfl, c1, c2, c0⟩ := hrel
    by_cases hlt : k < n
    · have hltz : (k : Int) < (n : Int) := by omega
      obtain ⟨ad, rfl, hrd, h32⟩ := hl.at k hlt
      have hrd1 := hrd.below c0
      have hs := Lib.hid (HT.out k (by rw [HN.out]; exact hlt))
      have hx := HL.out k
      have hy := Lib.hid h32
      have C := fun u => HX (foldH h (ls.take k)) (ls.getD k []) u hx h32
      have hyL := Lib.hid (nextH_length (foldH h (ls.take k)) (ls.getD k []))
      obtain ⟨z, hz⟩ : ∃ z, z = foldH h (ls.take (k + 1)) := ⟨_, rfl⟩
      rw [← hz] at hs
      have HZ := Lib.hid hz
      have hxL := Lib.hid hx
      clear hz hrd h32 hx
      have C2 : ∀ u : World, Hid (Calls Try.prog 108 #[.agg (bvs (foldH h (ls.take k))).toArray, .agg (bvs (ls.getD k [])).toArray] u fun e w' => e = .returned (.agg (bvs z).toArray) ∧ Below u.heap.size u w') := by
        intro u
        rw [hs.out]
        exact C u
      have hzl : Hid (z.length = 32) := Lib.hid (by rw [hs.out]; exact hyL.out)
      clear C hs hyL
      generalize foldH h (ls.take k) = x at *
      generalize ls.getD k [] = y at *
      have b1 : Blk (wr.alloc (.cells (bvs (zb 32)).toArray 25)) wr.heap.size 25 (bvs (zb 32)) := Blk.new _ _ _
      have d1 := c1.alloc (.cells (bvs (zb 32)).toArray 25)
      have d2 := c2.alloc (.cells (bvs (zb 32)).toArray 25)
      have d0 : Below w.heap.size w (wr.alloc (.cells (bvs (zb 32)).toArray 25)) := c0.alloc c0.size _
      have hl2 := c2.lt
      go_upto_region 3 with fail
      refine wp_region_lit ?_
      refine wpList_yield rfl _ (exec_siaz Try.underlying132 sz25 _ _ rfl ad n c k _ rfl rfl hlt) ?_
      simp only [Act.put, List.setIfInBounds_toArray, List.set_cons_zero, List.set_cons_succ]
      refine wpList_yield rfl _ (exec_load_rd at25w _ rfl _ (bvs y) rfl hrd1 (by omega) (by rw [bvs_length]; exact hy.out)) ?_
      simp only [Act.put, List.setIfInBounds_toArray, List.set_cons_zero, List.set_cons_succ]
      refine wpList_plain rfl fun K hK => ?_; go_simp
      refine hK _ _ ?_; clear hK
      (try simp only [Act.put, List.setIfInBounds_toArray, List.set_cons_zero, List.set_cons_succ])
      refine wpList_store_at at25w.i rfl (.tmp 6) (.tmp 12) rfl wr.heap.size 0 25 (bvs (zb 32)) (bvs y) rfl rfl b1 (by rw [bvs_length]; exact hy.out) (by rw [bvs_length, zb_length]; omega) (bvs_one _) ?_
      intro w1 hb1 hg1 hs1
      (try simp only [Act.put, List.setIfInBounds_toArray, List.set_cons_zero, List.set_cons_succ])
      refine wpList_nil ?_
      rw [splice_all _ _ (by rw [bvs_length, bvs_length, zb_length]; exact hy.out.symm)] at hb1
      have e1 := d1.grown hg1 (by simp; omega)
      have e2 := d2.grown hg1 (by simp; omega)
      have e0 := d0.grown hg1 d0.size (by intro k hk; cases hk; exact c0.size)
      clear b1 d1 d2 d0 hg1 hs1
      generalize wr.heap.size = G at *
      go_upto_region 4 with fail
      refine wp_region_lit ?_
      refine wpList_yield rfl _ (exec_load_agg at25w (.tmp 2) rfl w.heap.size 25 (bvs x) rfl e1 (by rw [bvs_length]; exact hxL.out)) ?_
      simp only [Act.put, List.setIfInBounds_toArray, List.set_cons_zero, List.set_cons_succ]
      refine wpList_yield rfl _ (exec_load_agg at25w (.tmp 6) rfl G 25 (bvs y) rfl hb1 (by rw [bvs_length]; exact hy.out)) ?_
      simp only [Act.put, List.setIfInBounds_toArray, List.set_cons_zero, List.set_cons_succ]
      refine wpList_plain rfl fun K hK => ?_; go_simp
      with_reducible refine (C2 _).out.mono ?_
      rintro e w2 ⟨rfl, hw2⟩
      refine hK _ _ ?_; clear hK
      (try simp only [Act.put, List.setIfInBounds_toArray, List.set_cons_zero, List.set_cons_succ])
      refine wpList_store_at at25w.i rfl (.tmp 2) (.tmp 15) rfl w.heap.size 0 25 (bvs x) (bvs z) rfl rfl (e1.below hw2 e1.lt) (by rw [bvs_length]; exact hzl.out) (by rw [bvs_length, hxL.out]; exact Nat.le_refl 32) (bvs_one _) ?_
      intro w3 hb3 hg3 hs3
      (try simp only [Act.put, List.setIfInBounds_toArray, List.set_cons_zero, List.set_cons_succ])
      refine wpList_nil ?_
      have e3 := (e2.below hw2 e2.lt).grown hg3 (by simp)
      have e4 := (bthen e0 hw2 e0.size).grown hg3 (Nat.le_trans e0.size hw2.size) (by intro k hk; cases hk; exact Nat.le_refl _)
      rw [splice_all _ _ (by rw [bvs_length, bvs_length, hxL.out, hzl.out])] at hb3
      go_wp2_with fail
      go_roundw
      case rel => exact ⟨k + 1, by omega, by go_num, by rw [← HZ.out]; exact hb3, e3, e4⟩
      case measure => simp only [intOf]; omega
    · obtain rfl : n = k := by omega
      rw [HE.out] at c1
      clear HE HT HL HX
      go_upto_region 6 with fail
      refine wp_region_lit ?_
      refine wpList_yield rfl _ (exec_load_agg at25w (.tmp 2) rfl w.heap.size 25 (bvs res) rfl c1 (by rw [bvs_length]; exact HRL.out)) ?_
      simp only [Act.put, List.setIfInBounds_toArray, List.set_cons_zero, List.set_cons_succ]
      refine wpList_store_at at25w.i rfl (.tmp 4) (.tmp 17) rfl (w.heap.size + 1) 0 25 (bvs (zb 32)) (bvs res) rfl rfl c2 (by rw [bvs_length]; exact HRL.out) (by rw [bvs_length, zb_length]; omega) (bvs_one _) ?_
      intro w4 hb4 hg4 hs4
      (try simp only [Act.put, List.setIfInBounds_toArray, List.set_cons_zero, List.set_cons_succ])
      refine wpList_nil ?_
      go_wp2_with fail
      (try simp only [Exit.inBlock, Exit.then])
      rw [splice_all _ _ (by rw [bvs_length, bvs_length, zb_length]; exact HRL.out.symm)] at hb4
      refine bodyPost_ret (ret_cell rfl at25w _ _ (w.heap.size + 1) 25 (bvs res) rfl hb4 (by rw [bvs_length]; exact HRL.out)) rfl ?_
      exact ⟨rfl, c0.grown hg4 c0.size (by intro k hk; cases hk; omega)⟩
set_option maxRecDepth 100000 in
set_option maxHeartbeats 1000000 in
theorem check_any (h g : List UInt8) (A : Option Addr) (n c : Nat) (ls : List (List UInt8)) (w : World) (lh : h.length = 32) (lg : g.length = 32) (hl : Hl w A n c ls) (E : Bool) (hE : (foldH h ls == g) = E) :
    Calls Try.prog 110 #[arr8 h, arr8 g, .slice A n c] w fun e w' => e = .returned (.bool E) ∧ Below w.heap.size w w' := by
  have b1 : Blk (w.alloc (.cells (bvs h).toArray 25)) w.heap.size 25 (bvs h) := Blk.new _ _ _
  have b2 : Blk ((w.alloc (.cells (bvs h).toArray 25)).alloc (.cells (bvs g).toArray 25)) (w.heap.size + 1) 25 (bvs g) := by
    have := Blk.new (w.alloc (.cells (bvs h).toArray 25)) 25 (bvs g)
    rwa [show (w.alloc (.cells (bvs h).toArray 25)).heap.size = w.heap.size + 1 by simp] at this
  have hall : Blk ((w.alloc (.cells (bvs h).toArray 25)).alloc (.cells (bvs g).toArray 25)) w.heap.size 25 (bvs h) ∧ Blk ((w.alloc (.cells (bvs h).toArray 25)).alloc (.cells (bvs g).toArray 25)) (w.heap.size + 1) 25 (bvs g) ∧ Below w.heap.size w ((w.alloc (.cells (bvs h).toArray 25)).alloc (.cells (bvs g).toArray 25)) := ⟨(b1.alloc (.cells (bvs g).toArray 25)), b2, (((Below.refl w.heap.size w).alloc (by first | exact Nat.le_refl _ | (simp; done) | (simp; omega)) (.cells (bvs h).toArray 25)).alloc (by first | exact Nat.le_refl _ | (simp; done) | (simp; omega)) (.cells (bvs g).toArray 25))⟩
  clear b1 b2
  have LH := Lib.hid lh
  have LG := Lib.hid lg
  have HE := Lib.hid hE
  have HRL : Hid ((foldH h ls).length = 32) := Lib.hid (foldH_length h ls lh)
  have C := fun (u : World) (hu : Below w.heap.size w u) => Lib.hid (fold_any h A n c ls u lh (hl.below hu))
  clear lh lg hE
  generalize foldH h ls = res at *
  unfold arr8 at *
  go_enter Try.func110, Try.ntmps110
  go_upto_region 1 with fail
  generalize hW : World.alloc (World.alloc w _) _ = w0
  have h3 : Blk w0 w.heap.size 25 (bvs h) ∧ Blk w0 (w.heap.size + 1) 25 (bvs g) ∧ Below w.heap.size w w0 := by rw [← hW]; exact hall
  clear hall hW
  obtain ⟨c1, c2, c0⟩ := h3
  refine rg_begin (Below w0.heap.size w0) [] [2] [0, 1, 3, 2, 4, 5] 0 mixed (by kernel_rfl) (fun _ _ _ _ e hh => ⟨e.symm.trans hh.1, hh.2⟩) ?_
  simp only [pick, List.map_cons, List.map_nil, List.getD_cons_zero, List.getD_cons_succ]
  have hS : (Below w0.heap.size w0) _ := (Below.refl _ _).drew
  refine rg_take rfl rfl hS (fun W hW => exec_load_agg at25w (.tmp 3) rfl w.heap.size 25 (bvs h) rfl (c1.below hW c1.lt) (by rw [bvs_length]; exact LH.out)) ?_
  simp only [Act.put, List.setIfInBounds_toArray, List.set_cons_zero, List.set_cons_succ]
  refine rg_take (v := ?v4_1) rfl rfl hS ?y4_1 ?_
  case y4_1 => intro W hW; (try subst hW); go_simp; try with_reducible rfl
  simp only [Act.put, List.setIfInBounds_toArray, List.set_cons_zero, List.set_cons_succ]
  refine rg_take rfl rfl hS (fun W hW => exec_load_agg at25w (.tmp 4) rfl (w.heap.size + 1) 25 (bvs g) rfl (c2.below hW c2.lt) (by rw [bvs_length]; exact LG.out)) ?_
  simp only [Act.put, List.setIfInBounds_toArray, List.set_cons_zero, List.set_cons_succ]
  refine rg_one rfl rfl ?_; intro K hK; go_simp
  with_reducible refine (C _ (c0.trans (Below.mono hS c0.size))).out.mono ?_
  rintro e w2 ⟨rfl, hw2⟩
  have hS1 : Below w0.heap.size w0 w2 := Below.trans hS (hw2.mono (Below.size hS))
  refine hK _ _ (fun _ => hS1) ?_; clear hK
  refine rg_take rfl rfl hS1 (fun W hW => exec_eql_to ab25 _ _ rfl res g rfl rfl HRL.out LG.out HE.out) ?_
  simp only [Act.put, List.setIfInBounds_toArray, List.set_cons_zero, List.set_cons_succ]
  refine rg_take (v := ?v4_5) rfl rfl hS1 ?y4_5 ?_
  case y4_5 => intro W hW; (try subst hW); go_simp; try with_reducible rfl
  simp only [Act.put, List.setIfInBounds_toArray, List.set_cons_zero, List.set_cons_succ]
  refine rg_done (by kernel_rfl) ?_
  go_wp2_with fail
  go_ret
  exact ⟨rfl, c0.trans (Below.mono hS1 c0.size)⟩
end Go.Proofs.Ytehbahobkgoapaa
namespace Go.Proofs.Ytehbahobkgoapaa
open Go Go.RowKit
set_option linter.unusedSimpArgs false
set_option linter.unusedVariables false
theorem ownsRow_blk {w : World} {base e z n : Nat} {v : Value} {xs : List Value} (h : w.ownsRow base e z v n xs) {g : Nat} (hg : v.ownBlock = some g) : base ≤ g ∧ ∃ cs, Blk w g e cs := by
  obtain ⟨hl, h⟩ := h
  rcases h with ⟨rfl, rfl⟩ | ⟨g', cap, cur, rfl, hg', hh, _⟩
  · simp [Value.ownBlock] at hg
  · simp [Value.ownBlock] at hg; subst hg
    exact ⟨hg', cur.toList, by simpa [Blk] using hh⟩
theorem ownsRow_below {w w' : World} {base e z n : Nat} {v : Value} {xs : List Value} (h : w.ownsRow base e z v n xs) (hb : Below w.heap.size w w') : w'.ownsRow base e z v n xs := by
  obtain ⟨hl, h⟩ := h
  refine ⟨hl, ?_⟩
  rcases h with h | ⟨g, cap, cur, hv, hg, hh, r⟩
  · exact .inl h
  · have hlt : g < w.heap.size := by
      rcases Nat.lt_or_ge g w.heap.size with hlt | hge
      · exact hlt
      · rw [Array.getElem?_eq_none hge] at hh; cases hh
    exact .inr ⟨g, cap, cur, hv, hg, (hb.block g hlt).trans hh, r⟩
theorem _root_.Go.RowKit.Below.then {a b c : World} (h : Below a.heap.size a b) (k : Below b.heap.size b c) : Below a.heap.size a c := h.trans (k.mono h.size)
end Go.Proofs.Ytehbahobkgoapaa
namespace Go.Proofs.Ytehbahobkgoapaa
open Go Go.RowKit
set_option linter.unusedSimpArgs false
set_option linter.unusedVariables false
theorem Tx.rd {w : World} {A : Option Addr} {n c : Nat} {l : List UInt8} (h : Tx w A n c l) : Rd w A (bvs l) := Lft.rd h
theorem Tx.len {w : World} {A : Option Addr} {n c : Nat} {l : List UInt8} (h : Tx w A n c l) : l.length = n := Lft.len h
theorem Tx.cap {w : World} {A : Option Addr} {n c : Nat} {l : List UInt8} (h : Tx w A n c l) : n ≤ c := Lft.cap h
theorem Tx.max {w : World} {A : Option Addr} {n c : Nat} {l : List UInt8} (h : Tx w A n c l) : c ≤ maxLen := Lft.max h
end Go.Proofs.Ytehbahobkgoapaa
namespace Go.Proofs.Ytehbahobkgoapaa
open Go Go.RowKit
set_option linter.unusedSimpArgs false
set_option linter.unusedVariables false
theorem list_ne (ls ks : List (List UInt8)) (k : Nat) (h : ls.getD k [] ≠ ks.getD k []) : (ls == ks) = false := by
  rw [beq_eq_false_iff_ne]; intro e; exact h (by rw [e])
theorem list_ne8 (ls ks : List UInt8) (k : Nat) (h : ls.getD k 0 ≠ ks.getD k 0) : (ls == ks) = false := by
  rw [beq_eq_false_iff_ne]; intro e; exact h (by rw [e])
theorem take_succ_eq {α : Type} (z : α) (ls ks : List α) (k : Nat) (hl : k < ls.length) (hk : k < ks.length) (h : ls.take k = ks.take k) (e : ls.getD k z = ks.getD k z) : ls.take (k + 1) = ks.take (k + 1) := by
  rw [List.take_succ_eq_append_getElem hl, List.take_succ_eq_append_getElem hk, h]
  rw [List.getD_eq_getElem?_getD, List.getD_eq_getElem?_getD, List.getElem?_eq_getElem hl, List.getElem?_eq_getElem hk] at e
  simp only [Option.getD_some] at e
  rw [e]
theorem exec_neq_to {P : Program} {w : World} {a : Act} {o : Oper} {T T' n : Nat} {b : Bool} (B : AB P T n) (x y : Operand) (ho : o.op = .binOp .neq T x y T') (xs ys : List UInt8) (ex : a.eval x = .agg (bvs xs).toArray) (ey : a.eval y = .agg (bvs ys).toArray) (hx : xs.length = n) (hy : ys.length = n) (h : (xs == ys) = !b) :
    (execOp a.eval o).run P w = .ok (.value (.bool b)) w := by rw [exec_neq_arr B x y ho xs ys ex ey hx hy, h, Bool.not_not]
theorem exec_bneq {P : Program} {w : World} {a : Act} {o : Oper} {t t' : TypeId} {b : Bool} (x y : Operand) (ho : o.op = .binOp .neq t x y t') (m n : UInt8) (hx : a.eval x = .int .u8 (m.toNat : Int)) (hy : a.eval y = .int .u8 (n.toNat : Int)) (h : (m == n) = !b) :
    (execOp a.eval o).run P w = .ok (.value (.bool b)) w := by
  have e : ((m.toNat : Int) == (n.toNat : Int)) = (m == n) := by
    rw [Bool.eq_iff_iff]
    simp only [beq_iff_eq, ← UInt8.toNat_inj]
    omega
  rw [h] at e
  unfold execOp
  simp only [ho, hx, hy]
  go_simp
  cases b <;> simp_all
set_option maxRecDepth 100000 in
set_option maxHeartbeats 4000000 in
theorem sameL143 (A : Option Addr) (n c : Nat) (ls : List (List UInt8)) (B : Option Addr) (m d : Nat) (ks : List (List UInt8)) (w : World) (h1 : Hl w A n c ls) (h2 : Hl w B m d ks) (E : Bool) (hE : (ls == ks) = E) :
    Calls Try.prog 143 #[.slice A n c, .slice B m d] w fun e w' => e = .returned (.bool E) ∧ Below w.heap.size w w' := by
  have L1 := Lib.hid h1.len
  have L2 := Lib.hid h2.len
  have hnm : n ≤ maxLen := Nat.le_trans h1.cap h1.max
  unfold maxLen at hnm
  by_cases hq : n = m
  · subst hq
    have HE := Lib.hid hE
    clear hE
    go_enter Try.func143, Try.ntmps143
    go_wp2_with fail
    go_loopw [13] (fun i wr => ∃ k : Nat, k ≤ n ∧ i = .int .i64 (k : Int) ∧ Hid (ls.take k = ks.take k) ∧ Below w.heap.size w wr) (fun i _ => n - (intOf i).toNat)
    case atStart => exact ⟨0, by omega, by go_num, rfl, Below.refl _ _⟩
    case round =>
      obtain ⟨k, hk, rfl, htk, hw⟩ := hrel
      by_cases hlt : k < n
      · have hltz : (k : Int) < (n : Int) := by omega
        obtain ⟨pa, rfl, x0, x32⟩ := h1.at k hlt
        obtain ⟨pb, rfl, y0, y32⟩ := h2.at k hlt
        have x1 := x0.below hw
        have y1 := y0.below hw
        have e1 := Lib.hid x32
        have e2 := Lib.hid y32
        clear x0 y0 x32 y32
        by_cases hxy : ls.getD k [] = ks.getD k []
        · have HT := Lib.hid (take_succ_eq [] ls ks k (by rw [L1.out]; exact hlt) (by rw [L2.out]; exact hlt) htk.out hxy)
          have hb : Hid ((ls.getD k [] == ks.getD k []) = !false) := Lib.hid (by rw [hxy]; simp)
          clear hxy
          generalize ls.getD k [] = x at *
          generalize ks.getD k [] = y at *
          go_upto_region 6 with fail
          refine rg_begin (Below wr.heap.size wr) [] [] [0, 1, 2, 3, 4, 5, 6, 7, 8] 0 mixed (by kernel_rfl) (fun _ _ _ _ e hh => ⟨e.symm.trans hh.1, hh.2⟩) ?_
          simp only [pick, List.map_cons, List.map_nil, List.getD_cons_zero, List.getD_cons_succ]
          have hS : (Below wr.heap.size wr) _ := (Below.refl _ _).drew
          refine rg_take (v := ?v1_0) rfl rfl hS ?y1_0 ?_
          case y1_0 => intro W hW; (try subst hW); go_simp; try with_reducible rfl
          simp only [Act.put, List.setIfInBounds_toArray, List.set_cons_zero, List.set_cons_succ]
          refine rg_take (v := ?v1_1) rfl rfl hS ?y1_1 ?_
          case y1_1 => intro W hW; (try subst hW); go_simp; try with_reducible rfl
          simp only [Act.put, List.setIfInBounds_toArray, List.set_cons_zero, List.set_cons_succ]
          refine rg_take rfl rfl hS (fun W hW => exec_siaz Try.underlying132 sz25 _ _ rfl pa n c k _ rfl rfl hlt) ?_
          simp only [Act.put, List.setIfInBounds_toArray, List.set_cons_zero, List.set_cons_succ]
          refine rg_take rfl rfl hS (fun W hW => exec_load_rd at25w _ rfl _ (bvs x) rfl (x1.below hW) (by omega) (by rw [bvs_length]; exact e1.out)) ?_
          simp only [Act.put, List.setIfInBounds_toArray, List.set_cons_zero, List.set_cons_succ]
          refine rg_take (v := ?v1_4) rfl rfl hS ?y1_4 ?_
          case y1_4 => intro W hW; (try subst hW); go_simp; try with_reducible rfl
          simp only [Act.put, List.setIfInBounds_toArray, List.set_cons_zero, List.set_cons_succ]
          refine rg_take (v := ?v1_5) rfl rfl hS ?y1_5 ?_
          case y1_5 => intro W hW; (try subst hW); go_simp; try with_reducible rfl
          simp only [Act.put, List.setIfInBounds_toArray, List.set_cons_zero, List.set_cons_succ]
          refine rg_take rfl rfl hS (fun W hW => exec_siaz Try.underlying132 sz25 _ _ rfl pb n d k _ rfl rfl hlt) ?_
          simp only [Act.put, List.setIfInBounds_toArray, List.set_cons_zero, List.set_cons_succ]
          refine rg_take rfl rfl hS (fun W hW => exec_load_rd at25w _ rfl _ (bvs y) rfl (y1.below hW) (by omega) (by rw [bvs_length]; exact e2.out)) ?_
          simp only [Act.put, List.setIfInBounds_toArray, List.set_cons_zero, List.set_cons_succ]
          refine rg_take rfl rfl hS (fun W hW => exec_neq_to ab25 _ _ rfl x y rfl rfl e1.out e2.out hb.out) ?_
          simp only [Act.put, List.setIfInBounds_toArray, List.set_cons_zero, List.set_cons_succ]
          refine rg_done (by kernel_rfl) ?_
          go_wp2_with fail
          go_roundw
          case rel => exact ⟨k + 1, by omega, by go_num, HT, hw.drew⟩
          case measure => simp only [intOf]; omega
        · obtain rfl : E = false := by rw [← HE.out]; exact list_ne ls ks k hxy
          have hb : Hid ((ls.getD k [] == ks.getD k []) = !true) := Lib.hid (by simp only [Bool.not_true, beq_eq_false_iff_ne]; exact hxy)
          clear hxy
          generalize ls.getD k [] = x at *
          generalize ks.getD k [] = y at *
          go_upto_region 6 with fail
          refine rg_begin (Below wr.heap.size wr) [] [] [0, 1, 2, 3, 4, 5, 6, 7, 8] 0 mixed (by kernel_rfl) (fun _ _ _ _ e hh => ⟨e.symm.trans hh.1, hh.2⟩) ?_
          simp only [pick, List.map_cons, List.map_nil, List.getD_cons_zero, List.getD_cons_succ]
          have hS : (Below wr.heap.size wr) _ := (Below.refl _ _).drew
          refine rg_take (v := ?v2_0) rfl rfl hS ?y2_0 ?_
          case y2_0 => intro W hW; (try subst hW); go_simp; try with_reducible rfl
          simp only [Act.put, List.setIfInBounds_toArray, List.set_cons_zero, List.set_cons_succ]
          refine rg_take (v := ?v2_1) rfl rfl hS ?y2_1 ?_
          case y2_1 => intro W hW; (try subst hW); go_simp; try with_reducible rfl
          simp only [Act.put, List.setIfInBounds_toArray, List.set_cons_zero, List.set_cons_succ]
          refine rg_take rfl rfl hS (fun W hW => exec_siaz Try.underlying132 sz25 _ _ rfl pa n c k _ rfl rfl hlt) ?_
          simp only [Act.put, List.setIfInBounds_toArray, List.set_cons_zero, List.set_cons_succ]
          refine rg_take rfl rfl hS (fun W hW => exec_load_rd at25w _ rfl _ (bvs x) rfl (x1.below hW) (by omega) (by rw [bvs_length]; exact e1.out)) ?_
          simp only [Act.put, List.setIfInBounds_toArray, List.set_cons_zero, List.set_cons_succ]
          refine rg_take (v := ?v2_4) rfl rfl hS ?y2_4 ?_
          case y2_4 => intro W hW; (try subst hW); go_simp; try with_reducible rfl
          simp only [Act.put, List.setIfInBounds_toArray, List.set_cons_zero, List.set_cons_succ]
          refine rg_take (v := ?v2_5) rfl rfl hS ?y2_5 ?_
          case y2_5 => intro W hW; (try subst hW); go_simp; try with_reducible rfl
          simp only [Act.put, List.setIfInBounds_toArray, List.set_cons_zero, List.set_cons_succ]
          refine rg_take rfl rfl hS (fun W hW => exec_siaz Try.underlying132 sz25 _ _ rfl pb n d k _ rfl rfl hlt) ?_
          simp only [Act.put, List.setIfInBounds_toArray, List.set_cons_zero, List.set_cons_succ]
          refine rg_take rfl rfl hS (fun W hW => exec_load_rd at25w _ rfl _ (bvs y) rfl (y1.below hW) (by omega) (by rw [bvs_length]; exact e2.out)) ?_
          simp only [Act.put, List.setIfInBounds_toArray, List.set_cons_zero, List.set_cons_succ]
          refine rg_take rfl rfl hS (fun W hW => exec_neq_to ab25 _ _ rfl x y rfl rfl e1.out e2.out hb.out) ?_
          simp only [Act.put, List.setIfInBounds_toArray, List.set_cons_zero, List.set_cons_succ]
          refine rg_done (by kernel_rfl) ?_
          go_wp2_with fail
          go_ret
          exact ⟨rfl, hw.drew⟩
      · obtain rfl : k = n := by omega
        have e3 : ls = ks := by
          have h := htk.out
          rwa [List.take_of_length_le (by rw [L1.out]; exact Nat.le_refl _), List.take_of_length_le (by rw [L2.out]; exact Nat.le_refl _)] at h
        obtain rfl : E = true := by rw [← HE.out, e3]; simp
        clear e3
        go_wp2_with fail
        go_ret
        exact ⟨rfl, hw⟩
  · obtain rfl : E = false := by
      rw [← hE, beq_eq_false_iff_ne]
      intro e
      apply hq
      rw [← L1.out, ← L2.out, e]
    have hz : ((n : Int) == (m : Int)) = false := by simp; omega
    clear hE
    go_enter Try.func143, Try.ntmps143
    go_wp2_with fail
    go_ret
    exact ⟨rfl, Below.refl _ _⟩
set_option maxRecDepth 100000 in
set_option maxHeartbeats 4000000 in
theorem sameL111 (A : Option Addr) (n c : Nat) (ls : List (List UInt8)) (B : Option Addr) (m d : Nat) (ks : List (List UInt8)) (w : World) (h1 : Hl w A n c ls) (h2 : Hl w B m d ks) (E : Bool) (hE : (ls == ks) = E) :
    Calls Try.prog 111 #[.slice A n c, .slice B m d] w fun e w' => e = .returned (.bool E) ∧ Below w.heap.size w w' := by
  have L1 := Lib.hid h1.len
  have L2 := Lib.hid h2.len
  have hnm : n ≤ maxLen := Nat.le_trans h1.cap h1.max
  unfold maxLen at hnm
  by_cases hq : n = m
  · subst hq
    have HE := Lib.hid hE
    clear hE
    go_enter Try.func111, Try.ntmps111
    go_wp2_with fail
    go_loopw [5] (fun i wr => ∃ k : Nat, k ≤ n ∧ i = .int .i64 (k : Int) ∧ Hid (ls.take k = ks.take k) ∧ Below w.heap.size w wr) (fun i _ => n - (intOf i).toNat)
    case atStart => exact ⟨0, by omega, by go_num, rfl, Below.refl _ _⟩
    case round =>
      obtain ⟨k, hk, rfl, htk, hw⟩ := hrel
      by_cases hlt : k < n
      · have hltz : (k : Int) < (n : Int) := by omega
        obtain ⟨pa, rfl, x0, x32⟩ := h1.at k hlt
        obtain ⟨pb, rfl, y0, y32⟩ := h2.at k hlt
        have x1 := x0.below hw
        have y1 := y0.below hw
        have e1 := Lib.hid x32
        have e2 := Lib.hid y32
        clear x0 y0 x32 y32
        by_cases hxy : ls.getD k [] = ks.getD k []
        · have HT := Lib.hid (take_succ_eq [] ls ks k (by rw [L1.out]; exact hlt) (by rw [L2.out]; exact hlt) htk.out hxy)
          have hb : Hid ((ls.getD k [] == ks.getD k []) = !false) := Lib.hid (by rw [hxy]; simp)
          clear hxy
          generalize ls.getD k [] = x at *
          generalize ks.getD k [] = y at *
          go_upto_region 6 with fail
          refine rg_begin (Below wr.heap.size wr) [] [] [0, 1, 2, 3, 4, 5, 6, 7, 8] 0 mixed (by kernel_rfl) (fun _ _ _ _ e hh => ⟨e.symm.trans hh.1, hh.2⟩) ?_
          simp only [pick, List.map_cons, List.map_nil, List.getD_cons_zero, List.getD_cons_succ]
          have hS : (Below wr.heap.size wr) _ := (Below.refl _ _).drew
          refine rg_take (v := ?v5_0) rfl rfl hS ?y5_0 ?_
          case y5_0 => intro W hW; (try subst hW); go_simp; try with_reducible rfl
          simp only [Act.put, List.setIfInBounds_toArray, List.set_cons_zero, List.set_cons_succ]
          refine rg_take (v := ?v5_1) rfl rfl hS ?y5_1 ?_
          case y5_1 => intro W hW; (try subst hW); go_simp; try with_reducible rfl
          simp only [Act.put, List.setIfInBounds_toArray, List.set_cons_zero, List.set_cons_succ]
          refine rg_take rfl rfl hS (fun W hW => exec_siaz Try.underlying132 sz25 _ _ rfl pa n c k _ rfl rfl hlt) ?_
          simp only [Act.put, List.setIfInBounds_toArray, List.set_cons_zero, List.set_cons_succ]
          refine rg_take rfl rfl hS (fun W hW => exec_load_rd at25w _ rfl _ (bvs x) rfl (x1.below hW) (by omega) (by rw [bvs_length]; exact e1.out)) ?_
          simp only [Act.put, List.setIfInBounds_toArray, List.set_cons_zero, List.set_cons_succ]
          refine rg_take (v := ?v5_4) rfl rfl hS ?y5_4 ?_
          case y5_4 => intro W hW; (try subst hW); go_simp; try with_reducible rfl
          simp only [Act.put, List.setIfInBounds_toArray, List.set_cons_zero, List.set_cons_succ]
          refine rg_take (v := ?v5_5) rfl rfl hS ?y5_5 ?_
          case y5_5 => intro W hW; (try subst hW); go_simp; try with_reducible rfl
          simp only [Act.put, List.setIfInBounds_toArray, List.set_cons_zero, List.set_cons_succ]
          refine rg_take rfl rfl hS (fun W hW => exec_siaz Try.underlying132 sz25 _ _ rfl pb n d k _ rfl rfl hlt) ?_
          simp only [Act.put, List.setIfInBounds_toArray, List.set_cons_zero, List.set_cons_succ]
          refine rg_take rfl rfl hS (fun W hW => exec_load_rd at25w _ rfl _ (bvs y) rfl (y1.below hW) (by omega) (by rw [bvs_length]; exact e2.out)) ?_
          simp only [Act.put, List.setIfInBounds_toArray, List.set_cons_zero, List.set_cons_succ]
          refine rg_take rfl rfl hS (fun W hW => exec_neq_to ab25 _ _ rfl x y rfl rfl e1.out e2.out hb.out) ?_
          simp only [Act.put, List.setIfInBounds_toArray, List.set_cons_zero, List.set_cons_succ]
          refine rg_done (by kernel_rfl) ?_
          go_wp2_with fail
          go_roundw
          case rel => exact ⟨k + 1, by omega, by go_num, HT, hw.drew⟩
          case measure => simp only [intOf]; omega
        · obtain rfl : E = false := by rw [← HE.out]; exact list_ne ls ks k hxy
          have hb : Hid ((ls.getD k [] == ks.getD k []) = !true) := Lib.hid (by simp only [Bool.not_true, beq_eq_false_iff_ne]; exact hxy)
          clear hxy
          generalize ls.getD k [] = x at *
          generalize ks.getD k [] = y at *
          go_upto_region 6 with fail
          refine rg_begin (Below wr.heap.size wr) [] [] [0, 1, 2, 3, 4, 5, 6, 7, 8] 0 mixed (by kernel_rfl) (fun _ _ _ _ e hh => ⟨e.symm.trans hh.1, hh.2⟩) ?_
          simp only [pick, List.map_cons, List.map_nil, List.getD_cons_zero, List.getD_cons_succ]
          have hS : (Below wr.heap.size wr) _ := (Below.refl _ _).drew
          refine rg_take (v := ?v6_0) rfl rfl hS ?y6_0 ?_
          case y6_0 => intro W hW; (try subst hW); go_simp; try with_reducible rfl
          simp only [Act.put, List.setIfInBounds_toArray, List.set_cons_zero, List.set_cons_succ]
          refine rg_take (v := ?v6_1) rfl rfl hS ?y6_1 ?_
          case y6_1 => intro W hW; (try subst hW); go_simp; try with_reducible rfl
          simp only [Act.put, List.setIfInBounds_toArray, List.set_cons_zero, List.set_cons_succ]
          refine rg_take rfl rfl hS (fun W hW => exec_siaz Try.underlying132 sz25 _ _ rfl pa n c k _ rfl rfl hlt) ?_
          simp only [Act.put, List.setIfInBounds_toArray, List.set_cons_zero, List.set_cons_succ]
          refine rg_take rfl rfl hS (fun W hW => exec_load_rd at25w _ rfl _ (bvs x) rfl (x1.below hW) (by omega) (by rw [bvs_length]; exact e1.out)) ?_
          simp only [Act.put, List.setIfInBounds_toArray, List.set_cons_zero, List.set_cons_succ]
          refine rg_take (v := ?v6_4) rfl rfl hS ?y6_4 ?_
          case y6_4 => intro W hW; (try subst hW); go_simp; try with_reducible rfl
          simp only [Act.put, List.setIfInBounds_toArray, List.set_cons_zero, List.set_cons_succ]
          refine rg_take (v := ?v6_5) rfl rfl hS ?y6_5 ?_
          case y6_5 => intro W hW; (try subst hW); go_simp; try with_reducible rfl
          simp only [Act.put, List.setIfInBounds_toArray, List.set_cons_zero, List.set_cons_succ]
          refine rg_take rfl rfl hS (fun W hW => exec_siaz Try.underlying132 sz25 _ _ rfl pb n d k _ rfl rfl hlt) ?_
          simp only [Act.put, List.setIfInBounds_toArray, List.set_cons_zero, List.set_cons_succ]
          refine rg_take rfl rfl hS (fun W hW => exec_load_rd at25w _ rfl _ (bvs y) rfl (y1.below hW) (by omega) (by rw [bvs_length]; exact e2.out)) ?_
          simp only [Act.put, List.setIfInBounds_toArray, List.set_cons_zero, List.set_cons_succ]
          refine rg_take rfl rfl hS (fun W hW => exec_neq_to ab25 _ _ rfl x y rfl rfl e1.out e2.out hb.out) ?_
          simp only [Act.put, List.setIfInBounds_toArray, List.set_cons_zero, List.set_cons_succ]
          refine rg_done (by kernel_rfl) ?_
          go_wp2_with fail
          go_ret
          exact ⟨rfl, hw.drew⟩
      · obtain rfl : k = n := by omega
        have e3 : ls = ks := by
          have h := htk.out
          rwa [List.take_of_length_le (by rw [L1.out]; exact Nat.le_refl _), List.take_of_length_le (by rw [L2.out]; exact Nat.le_refl _)] at h
        obtain rfl : E = true := by rw [← HE.out, e3]; simp
        clear e3
        go_wp2_with fail
        go_ret
        exact ⟨rfl, hw⟩
  · obtain rfl : E = false := by
      rw [← hE, beq_eq_false_iff_ne]
      intro e
      apply hq
      rw [← L1.out, ← L2.out, e]
    have hz : ((n : Int) == (m : Int)) = false := by simp; omega
    clear hE
    go_enter Try.func111, Try.ntmps111
    go_wp2_with fail
    go_ret
    exact ⟨rfl, Below.refl _ _⟩
set_option maxRecDepth 100000 in
set_option maxHeartbeats 4000000 in
theorem sameB145 (A : Option Addr) (n c : Nat) (ls : List UInt8) (B : Option Addr) (m d : Nat) (ks : List UInt8) (w : World) (h1 : Tx w A n c ls) (h2 : Tx w B m d ks) (E : Bool) (hE : (ls == ks) = E) :
    Calls Try.prog 145 #[.slice A n c, .slice B m d] w fun e w' => e = .returned (.bool E) ∧ Below w.heap.size w w' := by
  have L1 := Lib.hid h1.len
  have L2 := Lib.hid h2.len
  have hnm : n ≤ maxLen := Nat.le_trans h1.cap h1.max
  unfold maxLen at hnm
  by_cases hq : n = m
  · subst hq
    have HE := Lib.hid hE
    clear hE
    go_enter Try.func145, Try.ntmps145
    go_wp2_with fail
    go_loopw [13] (fun i wr => ∃ k : Nat, k ≤ n ∧ i = .int .i64 (k : Int) ∧ Hid (ls.take k = ks.take k) ∧ Below w.heap.size w wr) (fun i _ => n - (intOf i).toNat)
    case atStart => exact ⟨0, by omega, by go_num, rfl, Below.refl _ _⟩
    case round =>
      obtain ⟨k, hk, rfl, htk, hw⟩ := hrel
      by_cases hlt : k < n
      · have hltz : (k : Int) < (n : Int) := by omega
        obtain ⟨pa, rfl⟩ : ∃ pa, A = some pa := by
          obtain ⟨pa, h, _⟩ := (h1.rd).at_ (k := 0) (by rw [bvs_length, L1.out]; omega)
          exact ⟨pa, h⟩
        obtain ⟨pb, rfl⟩ : ∃ pb, B = some pb := by
          obtain ⟨pb, h, _⟩ := (h2.rd).at_ (k := 0) (by rw [bvs_length, L2.out]; omega)
          exact ⟨pb, h⟩
        have x1 := (h1.below hw).rd
        have y1 := (h2.below hw).rd
        have e1 := Lib.hid (byte_get ls k (by rw [L1.out]; exact hlt))
        have e2 := Lib.hid (byte_get ks k (by rw [L2.out]; exact hlt))
        by_cases hxy : ls.getD k 0 = ks.getD k 0
        · have HT := Lib.hid (take_succ_eq 0 ls ks k (by rw [L1.out]; exact hlt) (by rw [L2.out]; exact hlt) htk.out hxy)
          have hb : Hid ((ls.getD k 0 == ks.getD k 0) = !false) := Lib.hid (by rw [hxy]; simp)
          clear hxy
          generalize ls.getD k 0 = x at *
          generalize ks.getD k 0 = y at *
          go_upto_region 6 with fail
          refine rg_begin (Below wr.heap.size wr) [] [] [0, 1, 2, 3, 4, 5, 6, 7, 8] 0 mixed (by kernel_rfl) (fun _ _ _ _ e hh => ⟨e.symm.trans hh.1, hh.2⟩) ?_
          simp only [pick, List.map_cons, List.map_nil, List.getD_cons_zero, List.getD_cons_succ]
          have hS : (Below wr.heap.size wr) _ := (Below.refl _ _).drew
          refine rg_take (v := ?v7_0) rfl rfl hS ?y7_0 ?_
          case y7_0 => intro W hW; (try subst hW); go_simp; try with_reducible rfl
          simp only [Act.put, List.setIfInBounds_toArray, List.set_cons_zero, List.set_cons_succ]
          refine rg_take (v := ?v7_1) rfl rfl hS ?y7_1 ?_
          case y7_1 => intro W hW; (try subst hW); go_simp; try with_reducible rfl
          simp only [Act.put, List.setIfInBounds_toArray, List.set_cons_zero, List.set_cons_succ]
          refine rg_take rfl rfl hS (fun W hW => exec_sia Try.underlying24 sz5 _ _ rfl pa n c k _ rfl rfl hlt) ?_
          simp only [Act.put, List.setIfInBounds_toArray, List.set_cons_zero, List.set_cons_succ]
          refine rg_take rfl rfl hS (fun W hW => exec_bload_rd w5 _ rfl pa k ls x rfl (x1.below hW) e1.out) ?_
          simp only [Act.put, List.setIfInBounds_toArray, List.set_cons_zero, List.set_cons_succ]
          refine rg_take (v := ?v7_4) rfl rfl hS ?y7_4 ?_
          case y7_4 => intro W hW; (try subst hW); go_simp; try with_reducible rfl
          simp only [Act.put, List.setIfInBounds_toArray, List.set_cons_zero, List.set_cons_succ]
          refine rg_take (v := ?v7_5) rfl rfl hS ?y7_5 ?_
          case y7_5 => intro W hW; (try subst hW); go_simp; try with_reducible rfl
          simp only [Act.put, List.setIfInBounds_toArray, List.set_cons_zero, List.set_cons_succ]
          refine rg_take rfl rfl hS (fun W hW => exec_sia Try.underlying24 sz5 _ _ rfl pb n d k _ rfl rfl hlt) ?_
          simp only [Act.put, List.setIfInBounds_toArray, List.set_cons_zero, List.set_cons_succ]
          refine rg_take rfl rfl hS (fun W hW => exec_bload_rd w5 _ rfl pb k ks y rfl (y1.below hW) e2.out) ?_
          simp only [Act.put, List.setIfInBounds_toArray, List.set_cons_zero, List.set_cons_succ]
          refine rg_take rfl rfl hS (fun W hW => exec_bneq _ _ rfl x y rfl rfl hb.out) ?_
          simp only [Act.put, List.setIfInBounds_toArray, List.set_cons_zero, List.set_cons_succ]
          refine rg_done (by kernel_rfl) ?_
          go_wp2_with fail
          go_roundw
          case rel => exact ⟨k + 1, by omega, by go_num, HT, hw.drew⟩
          case measure => simp only [intOf]; omega
        · obtain rfl : E = false := by rw [← HE.out]; exact list_ne8 ls ks k hxy
          have hb : Hid ((ls.getD k 0 == ks.getD k 0) = !true) := Lib.hid (by simp only [Bool.not_true, beq_eq_false_iff_ne]; exact hxy)
          clear hxy
          generalize ls.getD k 0 = x at *
          generalize ks.getD k 0 = y at *
          go_upto_region 6 with fail
          refine rg_begin (Below wr.heap.size wr) [] [] [0, 1, 2, 3, 4, 5, 6, 7, 8] 0 mixed (by kernel_rfl) (fun _ _ _ _ e hh => ⟨e.symm.trans hh.1, hh.2⟩) ?_
          simp only [pick, List.map_cons, List.map_nil, List.getD_cons_zero, List.getD_cons_succ]
          have hS : (Below wr.heap.size wr) _ := (Below.refl _ _).drew
          refine rg_take (v := ?v8_0) rfl rfl hS ?y8_0 ?_
          case y8_0 => intro W hW; (try subst hW); go_simp; try with_reducible rfl
          simp only [Act.put, List.setIfInBounds_toArray, List.set_cons_zero, List.set_cons_succ]
          refine rg_take (v := ?v8_1) rfl rfl hS ?y8_1 ?_
          case y8_1 => intro W hW; (try subst hW); go_simp; try with_reducible rfl
          simp only [Act.put, List.setIfInBounds_toArray, List.set_cons_zero, List.set_cons_succ]
          refine rg_take rfl rfl hS (fun W hW => exec_sia Try.underlying24 sz5 _ _ rfl pa n c k _ rfl rfl hlt) ?_
          simp only [Act.put, List.setIfInBounds_toArray, List.set_cons_zero, List.set_cons_succ]
          refine rg_take rfl rfl hS (fun W hW => exec_bload_rd w5 _ rfl pa k ls x rfl (x1.below hW) e1.out) ?_
          simp only [Act.put, List.setIfInBounds_toArray, List.set_cons_zero, List.set_cons_succ]
          refine rg_take (v := ?v8_4) rfl rfl hS ?y8_4 ?_
          case y8_4 => intro W hW; (try subst hW); go_simp; try with_reducible rfl
          simp only [Act.put, List.setIfInBounds_toArray, List.set_cons_zero, List.set_cons_succ]
          refine rg_take (v := ?v8_5) rfl rfl hS ?y8_5 ?_
          case y8_5 => intro W hW; (try subst hW); go_simp; try with_reducible rfl
          simp only [Act.put, List.setIfInBounds_toArray, List.set_cons_zero, List.set_cons_succ]
          refine rg_take rfl rfl hS (fun W hW => exec_sia Try.underlying24 sz5 _ _ rfl pb n d k _ rfl rfl hlt) ?_
          simp only [Act.put, List.setIfInBounds_toArray, List.set_cons_zero, List.set_cons_succ]
          refine rg_take rfl rfl hS (fun W hW => exec_bload_rd w5 _ rfl pb k ks y rfl (y1.below hW) e2.out) ?_
          simp only [Act.put, List.setIfInBounds_toArray, List.set_cons_zero, List.set_cons_succ]
          refine rg_take rfl rfl hS (fun W hW => exec_bneq _ _ rfl x y rfl rfl hb.out) ?_
          simp only [Act.put, List.setIfInBounds_toArray, List.set_cons_zero, List.set_cons_succ]
          refine rg_done (by kernel_rfl) ?_
          go_wp2_with fail
          go_ret
          exact ⟨rfl, hw.drew⟩
      · obtain rfl : k = n := by omega
        have e3 : ls = ks := by
          have h := htk.out
          rwa [List.take_of_length_le (by rw [L1.out]; exact Nat.le_refl _), List.take_of_length_le (by rw [L2.out]; exact Nat.le_refl _)] at h
        obtain rfl : E = true := by rw [← HE.out, e3]; simp
        clear e3
        go_wp2_with fail
        go_ret
        exact ⟨rfl, hw⟩
  · obtain rfl : E = false := by
      rw [← hE, beq_eq_false_iff_ne]
      intro e
      apply hq
      rw [← L1.out, ← L2.out, e]
    have hz : ((n : Int) == (m : Int)) = false := by simp; omega
    clear hE
    go_enter Try.func145, Try.ntmps145
    go_wp2_with fail
    go_ret
    exact ⟨rfl, Below.refl _ _⟩
theorem et25 : ET Try.prog 25 (.agg (bvs (zb 32)).toArray) 32 32 := ⟨by kernel_rfl, rfl, by omega⟩
theorem own_hl {w : World} {base n : Nat} {v : Value} {ls : List (List UInt8)} (h : w.ownsRow base 25 32 v n (bvs ls.flatten)) (hl : ls.length = n) (he : ∀ l ∈ ls, l.length = 32) : ∃ A c, v = .slice A n c ∧ Hl w A n c ls := by
  obtain ⟨A, c, rfl, h1, h2, h3⟩ := ownsRow_rd h
  exact ⟨A, c, rfl, hl, h1, h2, h3, he⟩
end Go.Proofs.Ytehbahobkgoapaa
namespace Go.Proofs.Ytehbahobkgoapaa
open Go Go.RowKit
section
variable {P : Program} {ops : Array Oper} {rest : List Oper} {o : Oper} {a : Act} {w : World} {Q : Exit → Act → World → Prop}
theorem wpList_plain_w (hw : Region.wanted o (yielded ops a.tmps) = true) (h : ∀ K : Act → World → Prop, (∀ a w, wpList P ops Q rest a w → K a w) → o.wp P a w K Q) : wpList P ops Q (o :: rest) a w :=
  wpList_step fun K hK => by rw [if_pos hw]; exact h K hK
theorem wpList_skip_w (hw : Region.wanted o (yielded ops a.tmps) = false) (h : wpList P ops Q rest (a.put o.dst undef) w) : wpList P ops Q (o :: rest) a w := by
  unfold wpList
  rw [if_neg (by rw [hw]; decide)]
  exact h
end
end Go.Proofs.Ytehbahobkgoapaa
namespace Go.Proofs.Ytehbahobkgoapaa
open Go Go.RowKit
set_option linter.unusedSimpArgs false
set_option linter.unusedVariables false
def txtN (n : Nat) : Nat := if n = 0 then 1 else 65
def txtH (ls : List (List UInt8)) : List UInt8 := if ls.length = 0 then [4] else 5 :: (foldH firstH (ls.take (ls.length - 1)) ++ ls.getD (ls.length - 1) [])
theorem txtH_nil (ls : List (List UInt8)) (h : ls.length = 0) : txtH ls = [4] := by unfold txtH; rw [if_pos h]
theorem txtH_cons (ls : List (List UInt8)) (n : Nat) (hl : ls.length = n) (h : 0 < n) : txtH ls = 5 :: (foldH firstH (ls.take (n - 1)) ++ ls.getD (n - 1) []) := by unfold txtH; rw [if_neg (by omega), hl]
theorem st132 : ST Try.prog 132 25 32 := ⟨Try.underlying132, by kernel_rfl⟩
/-- What it points at is new. -/
def Frs (w : World) (A : Option Addr) : Prop := ∀ ad, A = some ad → w.heap.size ≤ ad.block
theorem Frs.mono {w w' : World} {A : Option Addr} (h : Frs w' A) (hs : w.heap.size ≤ w'.heap.size) : Frs w A := fun ad e => Nat.le_trans hs (h ad e)
theorem ia191 : IA Try.prog 191 65 := ⟨⟨_, Try.underlying191, by kernel_rfl⟩⟩
theorem exec_arr_all_ad {P : Program} {w : World} {a : Act} {o : Oper} {t : TypeId} {n : Nat} (B : IA P t n) (x : Operand) (ho : o.op = .slice t x none none none) (ad : Addr) (hx : a.eval x = .pointer (some ad)) :
    (execOp a.eval o).run P w = .ok (.value (.slice (some ad) n n)) w := by
  obtain ⟨e, hu, hs⟩ := B.u
  have he : P.elem t = e := by simp [Program.elem, hu]
  have hn : P.arrayLen t = n := by simp [Program.arrayLen, hu]
  have hz : (sizeOf e).run P w = .ok 1 w := by
    cases hq : P.info? e with
    | none => simp [hq] at hs
    | some j =>
      simp [hq] at hs
      simp [sizeOf, typeInfo, hq, hs]
  have hr := run_sliceAt_array_all (P := P) w t ad (by rw [he, hn]; exact hu)
  rw [hn, he, hz] at hr
  simp only [Result.andThen_ok, slicedAt, Nat.zero_mul, Nat.sub_zero] at hr
  have ea : ad.add 0 = ad := by unfold Addr.add; rw [if_pos rfl]
  have e0 : (if n = 0 then ad else ad.add 0) = ad := by rw [ea]; simp
  rw [e0] at hr
  unfold execOp
  simp only [ho, hx, Option.map_none, Sem.run_bind, hr, Result.andThen_ok, Sem.run_pure]
theorem put5_0 : (bvs (zb 65)).set 0 (.int .u8 5) = bvs (5 :: zb 64) := rfl
theorem put5_1 (x : List UInt8) (hx : x.length = 32) : splice (5 :: zb 64) 1 (x.take 64) = 5 :: (x ++ zb 32) := by
  have e : x.take 64 = x := List.take_of_length_le (by omega)
  unfold splice
  rw [e, hx]
  rfl
theorem put5_2 (x y : List UInt8) (hx : x.length = 32) (hy : y.length = 32) : splice (5 :: (x ++ zb 32)) 33 (y.take 32) = 5 :: (x ++ y) := by
  have e : y.take 32 = y := List.take_of_length_le (by omega)
  have e2 : x.take 32 = x := List.take_of_length_le (by omega)
  unfold splice
  rw [e, hy, List.take_succ_cons, List.take_append_of_le_length (by omega), e2, List.drop_eq_nil_of_le (by simp [zb_length, hx]), List.append_nil]
  rfl
set_option maxRecDepth 100000 in
set_option maxHeartbeats 4000000 in
theorem chain_txt (A : Option Addr) (n c : Nat) (ls : List (List UInt8)) (w : World) (h : Hl w A n c ls) :
    Calls Try.prog 144 #[.slice A n c] w fun e w' => ∃ A' c', e = .returned (.slice A' (txtN n) c') ∧ Tx w' A' (txtN n) c' (txtH ls) ∧ Frs w A' ∧ Below w.heap.size w w' := by
  have hnm : n ≤ maxLen := Nat.le_trans h.cap h.max
  unfold maxLen at hnm
  by_cases h0 : n = 0
  · have e1 : txtN n = 1 := by unfold txtN; rw [if_pos h0]
    have e2 := txtH_nil ls (by rw [h.len]; exact h0)
    rw [e1, e2]
    clear e1 e2
    subst h0
    go_enter Try.func144, Try.ntmps144
    go_wp2_with fail
    go_ret
    exact ⟨_, 1, rfl, ⟨rfl, Nat.le_refl _, by unfold maxLen; omega, one_new w 4 _ rfl, fun _ _ h => h⟩, fun ad e => by cases e; exact Nat.le_refl _, (Below.refl _ _).alloc (Nat.le_refl _) _⟩
  · have h1 : 0 < n := by omega
    have e1 : txtN n = 65 := by unfold txtN; rw [if_neg h0]
    have e2 := txtH_cons ls n h.len h1
    rw [e1, e2]
    clear e1 e2
    have hnz : ((n : Int) == 0) = false := by simp; omega
    obtain ⟨pa, rfl, hrd, hl32⟩ := h.at (n - 1) (by omega)
    have C1 := fun u => Lib.hid (cfirst_any u)
    have C2 := fun (u : World) (hu : Below w.heap.size w u) => Lib.hid (fold_any firstH (some pa) (n - 1) c (ls.take (n - 1)) u firstH_length ((h.to (n - 1) (by omega)).below hu))
    have HDL : Hid ((foldH firstH (ls.take (n - 1))).length = 32) := Lib.hid (foldH_length _ _ firstH_length)
    have HRL := Lib.hid hl32
    have hcap := h.cap
    clear hl32 h0
    rw [show shaL [4] = firstH from rfl] at C1
    generalize firstH = FH at *
    generalize foldH FH (ls.take (n - 1)) = HD at *
    generalize ls.getD (n - 1) [] = RT at *
    have P1 := Lib.hid (put5_1 HD HDL.out)
    have P2 := Lib.hid (put5_2 HD RT HDL.out HRL.out)
    unfold arr8 at *
    go_enter Try.func144, Try.ntmps144
    go_upto_region 4 with fail
    refine rg_begin (Below w.heap.size w) [7] [0, 5, 6, 7] [1, 2, 3, 4] 4 mixed (by kernel_rfl) (fun _ _ _ _ e hh => ⟨e.symm.trans hh.1, hh.2⟩) ?_
    simp only [pick, List.map_cons, List.map_nil, List.getD_cons_zero, List.getD_cons_succ]
    have hS : (Below w.heap.size w) _ := (Below.refl _ _).drew
    generalize w.drew = wc at *
    refine rg_take (v := ?v6_1) rfl rfl hS ?y6_1 ?_
    case y6_1 => intro W hW; (try subst hW); go_simp; try with_reducible rfl
    simp only [Act.put, List.setIfInBounds_toArray, List.set_cons_zero, List.set_cons_succ]
    refine rg_take (v := ?v6_2) rfl rfl hS ?y6_2 ?_
    case y6_2 => intro W hW; (try subst hW); go_simp; try with_reducible rfl
    simp only [Act.put, List.setIfInBounds_toArray, List.set_cons_zero, List.set_cons_succ]
    refine rg_take rfl rfl hS (fun W hW => exec_isub _ _ rfl _ _ (((n - 1 : Nat) : Int)) rfl rfl (by omega) (by omega)) ?_
    simp only [Act.put, List.setIfInBounds_toArray, List.set_cons_zero, List.set_cons_succ]
    refine rg_take rfl rfl hS (fun W hW => exec_slice_to st132 _ _ rfl (some pa) n c (n - 1) .i64 rfl rfl (by omega)) ?_
    simp only [Act.put, List.setIfInBounds_toArray, List.set_cons_zero, List.set_cons_succ]
    refine rg_fork [0, 6] (by kernel_rfl) ?_
    simp only [pick, List.map_cons, List.map_nil, List.getD_cons_zero, List.getD_cons_succ]
    refine ⟨⟨rfl, ?_⟩, ⟨rfl, ?_⟩, trivial⟩
    · intro K hK; go_simp
      with_reducible refine (C1 _).out.mono ?_
      rintro e wc ⟨rfl, hn⟩
      have hS := hS.trans (hn.mono hS.size)
      (try have xz := xz.below hn xz.lt)
      refine hK _ _ (fun _ => hS) ?_; clear hK hn
      refine rg_fork [5, 6] (by kernel_rfl) ?_
      simp only [pick, List.map_cons, List.map_nil, List.getD_cons_zero, List.getD_cons_succ]
      refine ⟨⟨rfl, ?_⟩, ⟨rfl, ?_⟩, trivial⟩
      · intro K hK; go_simp
        with_reducible refine (C2 _ hS).out.mono ?_
        rintro e wc ⟨rfl, hn⟩
        have hS := hS.trans (hn.mono hS.size)
        (try have xz := xz.below hn xz.lt)
        refine hK _ _ (fun _ => hS) ?_; clear hK hn
        refine rg_more [6, 7] 0 (by kernel_rfl) ?_
        simp only [pick, List.map_cons, List.map_nil, List.getD_cons_zero, List.getD_cons_succ]
        refine rg_one rfl rfl ?_; intro K hK; go_simp
        have hgz0 : w.heap.size ≤ wc.heap.size := hS.size
        have hS' : Below w.heap.size w (wc.alloc (.cells (bvs (zb 32)).toArray 25)) := hS.alloc hS.size _
        have xz' : Blk (wc.alloc (.cells (bvs (zb 32)).toArray 25)) wc.heap.size 25 (bvs (zb 32)) := Blk.new _ _ _
        refine hK _ _ (fun _ => hS') ?_; clear hK
        generalize hWn : World.alloc wc _ = wn
        have hS : Below w.heap.size w wn := by rw [← hWn]; exact hS'
        have xz : Blk wn wc.heap.size 25 (bvs (zb 32)) := by rw [← hWn]; exact xz'
        clear hWn hS' xz'
        generalize wc.heap.size = gz at *
        rename World => wc
        refine rg_one rfl rfl ?_; intro K hK
        refine wp_store_at at25w.i (.tmp 4) (.tmp 16) rfl gz 0 25 (bvs (zb 32)) (bvs HD) rfl rfl xz (by rw [bvs_length]; exact HDL.out) (by rw [bvs_length, zb_length]; omega) (bvs_one _) ?_
        intro wz hbz hgz hsz
        clear hsz
        refine hK _ _ (fun h => by cases h) ?_; clear hK
        refine rg_done (by kernel_rfl) ?_
        rw [splice_all _ _ (by rw [bvs_length, bvs_length, zb_length]; exact HDL.out.symm)] at hbz
        have hz1 : Below w.heap.size w wz := hS.grown hgz hS.size (by intro k hk; cases hk; exact hgz0)
        have q1 : Blk (wz.alloc (.cells (bvs (zb 65)).toArray 191)) wz.heap.size 191 (bvs (zb 65)) := Blk.new _ _ _
        have q2 := hbz.alloc (.cells (bvs (zb 65)).toArray 191)
        have q3 : Below w.heap.size w (wz.alloc (.cells (bvs (zb 65)).toArray 191)) := hz1.alloc hz1.size _
        have hlt := hbz.lt
        have hgw := hz1.size
        go_upto_region 6 with fail
        generalize hWq : World.alloc wz _ = wy
        have r1 : Blk wy wz.heap.size 191 (bvs (zb 65)) := by rw [← hWq]; exact q1
        have r2 : Blk wy gz 25 (bvs HD) := by rw [← hWq]; exact q2
        have r3 : Below w.heap.size w wy := by rw [← hWq]; exact q3
        clear hWq q1 q2 q3
        generalize wz.heap.size = gy at *
        refine wp_region_lit ?_
        refine wpList_yield rfl _ (exec_ia0 ia191 _ _ rfl gy 0 _ rfl rfl (by decide)) ?_
        simp only [Act.put, List.setIfInBounds_toArray, List.set_cons_zero, List.set_cons_succ]
        refine wpList_store_one rfl one5 (.tmp 17) _ rfl gy 0 191 (bvs (zb 65)) (.int .u8 5) rfl rfl rfl r1 (by rw [bvs_length, zb_length]; decide) ?_
        (try simp only [Act.put, List.setIfInBounds_toArray, List.set_cons_zero, List.set_cons_succ])
        refine wpList_nil ?_
        have s1 := r1.set_ 0 (.int .u8 5)
        rw [put5_0] at s1
        have s2 := r2.far (p := ⟨gy, 0, none⟩) (by simp; omega) (.int .u8 5)
        have s3 := r3.setCell (p := ⟨gy, 0, none⟩) hgw (.int .u8 5)
        generalize World.setCell wy _ _ = wx at *
        go_upto_region 7 with fail
        refine rg_begin (Any) [] [2] [0, 1, 2] 0 mixed (by kernel_rfl) (fun _ _ _ _ e hh => ⟨e.symm.trans hh.1, hh.2⟩) ?_
        simp only [pick, List.map_cons, List.map_nil, List.getD_cons_zero, List.getD_cons_succ]
        have hS7 : (Any) _ := any_at wx.drew
        refine rg_take rfl rfl hS7 (fun W hW => exec_arr_from ia191 _ _ rfl gy 0 1 _ rfl rfl (by decide)) ?_
        simp only [Act.put, List.setIfInBounds_toArray, List.set_cons_zero, List.set_cons_succ]
        refine rg_take rfl rfl hS7 (fun W hW => exec_arr_all ia25 _ rfl gz 0 rfl) ?_
        simp only [Act.put, List.setIfInBounds_toArray, List.set_cons_zero, List.set_cons_succ]
        refine rg_one rfl rfl ?_; intro K hK
        refine wp_copy_mid bt (.tmp 18) (.tmp 19) rfl gy (0 + 1) (65 - 1) (65 - 1) ⟨gz, 0, none⟩ 32 32 rfl rfl 191 _ HD s1.drew (Rd.of_blk0 (es := []) (by simpa using s2.drew)) HDL.out (by simp [bvs_length, zb_length]) 32 rfl ?_
        intro wv hv1 hgv hsv
        clear hsv
        have hAv := any_at wv
        refine hK _ _ (fun _ => hAv) ?_; clear hK
        refine rg_done (by kernel_rfl) ?_
        rw [splice_bvs] at hv1
        have hv2 : Blk wv gy 191 (bvs (5 :: (HD ++ zb 32))) := by rw [← P1.out]; exact hv1
        have hv3 : Below w.heap.size w wv := s3.drew.grown hgv s3.size (by intro k hk; cases hk; exact hgw)
        clear hv1 s1 s2 r1 r2 r3 hgv
        go_upto_region 8 with fail
        refine rg_begin (Any) [] [6] [0, 1, 2, 3, 4, 5, 6] 0 mixed (by kernel_rfl) (fun _ _ _ _ e hh => ⟨e.symm.trans hh.1, hh.2⟩) ?_
        simp only [pick, List.map_cons, List.map_nil, List.getD_cons_zero, List.getD_cons_succ]
        have hS8 : (Any) _ := any_at wv.drew
        refine rg_take rfl rfl hS8 (fun W hW => exec_arr_from ia191 _ _ rfl gy 0 33 _ rfl rfl (by decide)) ?_
        simp only [Act.put, List.setIfInBounds_toArray, List.set_cons_zero, List.set_cons_succ]
        refine rg_take (v := ?v15_1) rfl rfl hS8 ?y15_1 ?_
        case y15_1 => intro W hW; (try subst hW); go_simp; try with_reducible rfl
        simp only [Act.put, List.setIfInBounds_toArray, List.set_cons_zero, List.set_cons_succ]
        refine rg_take (v := ?v15_2) rfl rfl hS8 ?y15_2 ?_
        case y15_2 => intro W hW; (try subst hW); go_simp; try with_reducible rfl
        simp only [Act.put, List.setIfInBounds_toArray, List.set_cons_zero, List.set_cons_succ]
        refine rg_take rfl rfl hS8 (fun W hW => exec_isub _ _ rfl _ _ (((n - 1 : Nat) : Int)) rfl rfl (by omega) (by omega)) ?_
        simp only [Act.put, List.setIfInBounds_toArray, List.set_cons_zero, List.set_cons_succ]
        refine rg_take rfl rfl hS8 (fun W hW => exec_siaz Try.underlying132 sz25 _ _ rfl pa n c (n - 1) _ rfl rfl (by omega)) ?_
        simp only [Act.put, List.setIfInBounds_toArray, List.set_cons_zero, List.set_cons_succ]
        refine rg_take rfl rfl hS8 (fun W hW => exec_arr_all_ad ia25 _ rfl (pa.add ((n - 1) * 32)) rfl) ?_
        simp only [Act.put, List.setIfInBounds_toArray, List.set_cons_zero, List.set_cons_succ]
        refine rg_one rfl rfl ?_; intro K hK
        refine wp_copy_mid bt (.tmp 21) (.tmp 26) rfl gy (0 + 33) (65 - 33) (65 - 33) (pa.add ((n - 1) * 32)) 32 32 rfl rfl 191 _ RT hv2.drew ((hrd.below hv3).drew) HRL.out (by simp [bvs_length, zb_length, HDL.out]) 32 rfl ?_
        intro wu hu1 hgu hsu
        clear hsu
        have hAu := any_at wu
        refine hK _ _ (fun _ => hAu) ?_; clear hK
        refine rg_done (by kernel_rfl) ?_
        rw [splice_bvs] at hu1
        have hu2 : Blk wu gy 191 (bvs (5 :: (HD ++ RT))) := by rw [← P2.out]; exact hu1
        have hu3 : Below w.heap.size w wu := hv3.drew.grown hgu hv3.size (by intro k hk; cases hk; exact hgw)
        go_upto_region 9 with fail
        refine wp_region_lit ?_
        refine wpList_yield rfl _ (exec_arr_all ia191 _ rfl gy 0 rfl) ?_
        simp only [Act.put, List.setIfInBounds_toArray, List.set_cons_zero, List.set_cons_succ]
        refine wpList_yield rfl _ (exec_assign _ rfl) ?_
        simp only [Act.put, Act.eval, Array.getD_eq_getD_getElem?, List.getElem?_toArray, List.getElem?_cons_succ, List.getElem?_cons_zero, Option.getD_some, List.setIfInBounds_toArray, List.set_cons_zero, List.set_cons_succ]
        refine wpList_nil ?_
        go_wp2_with fail
        go_ret
        exact ⟨_, 65, rfl, ⟨by simp [HDL.out, HRL.out], Nat.le_refl _, by unfold maxLen; omega, Rd.of_blk0 (es := []) (by simpa using hu2), fun _ _ h => h⟩, fun ad e => by cases e; exact hgw, hu3⟩
      · intro K hK; go_simp
        have hgz0 : w.heap.size ≤ wc.heap.size := hS.size
        have hS' : Below w.heap.size w (wc.alloc (.cells (bvs (zb 32)).toArray 25)) := hS.alloc hS.size _
        have xz' : Blk (wc.alloc (.cells (bvs (zb 32)).toArray 25)) wc.heap.size 25 (bvs (zb 32)) := Blk.new _ _ _
        refine hK _ _ (fun _ => hS') ?_; clear hK
        generalize hWn : World.alloc wc _ = wn
        have hS : Below w.heap.size w wn := by rw [← hWn]; exact hS'
        have xz : Blk wn wc.heap.size 25 (bvs (zb 32)) := by rw [← hWn]; exact xz'
        clear hWn hS' xz'
        generalize wc.heap.size = gz at *
        rename World => wc
        refine rg_more [5, 7] 0 (by kernel_rfl) ?_
        simp only [pick, List.map_cons, List.map_nil, List.getD_cons_zero, List.getD_cons_succ]
        refine rg_one rfl rfl ?_; intro K hK; go_simp
        with_reducible refine (C2 _ hS).out.mono ?_
        rintro e wc ⟨rfl, hn⟩
        have hS := hS.trans (hn.mono hS.size)
        (try have xz := xz.below hn xz.lt)
        refine hK _ _ (fun _ => hS) ?_; clear hK hn
        refine rg_one rfl rfl ?_; intro K hK
        refine wp_store_at at25w.i (.tmp 4) (.tmp 16) rfl gz 0 25 (bvs (zb 32)) (bvs HD) rfl rfl xz (by rw [bvs_length]; exact HDL.out) (by rw [bvs_length, zb_length]; omega) (bvs_one _) ?_
        intro wz hbz hgz hsz
        clear hsz
        refine hK _ _ (fun h => by cases h) ?_; clear hK
        refine rg_done (by kernel_rfl) ?_
        rw [splice_all _ _ (by rw [bvs_length, bvs_length, zb_length]; exact HDL.out.symm)] at hbz
        have hz1 : Below w.heap.size w wz := hS.grown hgz hS.size (by intro k hk; cases hk; exact hgz0)
        have q1 : Blk (wz.alloc (.cells (bvs (zb 65)).toArray 191)) wz.heap.size 191 (bvs (zb 65)) := Blk.new _ _ _
        have q2 := hbz.alloc (.cells (bvs (zb 65)).toArray 191)
        have q3 : Below w.heap.size w (wz.alloc (.cells (bvs (zb 65)).toArray 191)) := hz1.alloc hz1.size _
        have hlt := hbz.lt
        have hgw := hz1.size
        go_upto_region 6 with fail
        generalize hWq : World.alloc wz _ = wy
        have r1 : Blk wy wz.heap.size 191 (bvs (zb 65)) := by rw [← hWq]; exact q1
        have r2 : Blk wy gz 25 (bvs HD) := by rw [← hWq]; exact q2
        have r3 : Below w.heap.size w wy := by rw [← hWq]; exact q3
        clear hWq q1 q2 q3
        generalize wz.heap.size = gy at *
        refine wp_region_lit ?_
        refine wpList_yield rfl _ (exec_ia0 ia191 _ _ rfl gy 0 _ rfl rfl (by decide)) ?_
        simp only [Act.put, List.setIfInBounds_toArray, List.set_cons_zero, List.set_cons_succ]
        refine wpList_store_one rfl one5 (.tmp 17) _ rfl gy 0 191 (bvs (zb 65)) (.int .u8 5) rfl rfl rfl r1 (by rw [bvs_length, zb_length]; decide) ?_
        (try simp only [Act.put, List.setIfInBounds_toArray, List.set_cons_zero, List.set_cons_succ])
        refine wpList_nil ?_
        have s1 := r1.set_ 0 (.int .u8 5)
        rw [put5_0] at s1
        have s2 := r2.far (p := ⟨gy, 0, none⟩) (by simp; omega) (.int .u8 5)
        have s3 := r3.setCell (p := ⟨gy, 0, none⟩) hgw (.int .u8 5)
        generalize World.setCell wy _ _ = wx at *
        go_upto_region 7 with fail
        refine rg_begin (Any) [] [2] [0, 1, 2] 0 mixed (by kernel_rfl) (fun _ _ _ _ e hh => ⟨e.symm.trans hh.1, hh.2⟩) ?_
        simp only [pick, List.map_cons, List.map_nil, List.getD_cons_zero, List.getD_cons_succ]
        have hS7 : (Any) _ := any_at wx.drew
        refine rg_take rfl rfl hS7 (fun W hW => exec_arr_from ia191 _ _ rfl gy 0 1 _ rfl rfl (by decide)) ?_
        simp only [Act.put, List.setIfInBounds_toArray, List.set_cons_zero, List.set_cons_succ]
        refine rg_take rfl rfl hS7 (fun W hW => exec_arr_all ia25 _ rfl gz 0 rfl) ?_
        simp only [Act.put, List.setIfInBounds_toArray, List.set_cons_zero, List.set_cons_succ]
        refine rg_one rfl rfl ?_; intro K hK
        refine wp_copy_mid bt (.tmp 18) (.tmp 19) rfl gy (0 + 1) (65 - 1) (65 - 1) ⟨gz, 0, none⟩ 32 32 rfl rfl 191 _ HD s1.drew (Rd.of_blk0 (es := []) (by simpa using s2.drew)) HDL.out (by simp [bvs_length, zb_length]) 32 rfl ?_
        intro wv hv1 hgv hsv
        clear hsv
        have hAv := any_at wv
        refine hK _ _ (fun _ => hAv) ?_; clear hK
        refine rg_done (by kernel_rfl) ?_
        rw [splice_bvs] at hv1
        have hv2 : Blk wv gy 191 (bvs (5 :: (HD ++ zb 32))) := by rw [← P1.out]; exact hv1
        have hv3 : Below w.heap.size w wv := s3.drew.grown hgv s3.size (by intro k hk; cases hk; exact hgw)
        clear hv1 s1 s2 r1 r2 r3 hgv
        go_upto_region 8 with fail
        refine rg_begin (Any) [] [6] [0, 1, 2, 3, 4, 5, 6] 0 mixed (by kernel_rfl) (fun _ _ _ _ e hh => ⟨e.symm.trans hh.1, hh.2⟩) ?_
        simp only [pick, List.map_cons, List.map_nil, List.getD_cons_zero, List.getD_cons_succ]
        have hS8 : (Any) _ := any_at wv.drew
        refine rg_take rfl rfl hS8 (fun W hW => exec_arr_from ia191 _ _ rfl gy 0 33 _ rfl rfl (by decide)) ?_
        simp only [Act.put, List.setIfInBounds_toArray, List.set_cons_zero, List.set_cons_succ]
        refine rg_take (v := ?v17_1) rfl rfl hS8 ?y17_1 ?_
        case y17_1 => intro W hW; (try subst hW); go_simp; try with_reducible rfl
        simp only [Act.put, List.setIfInBounds_toArray, List.set_cons_zero, List.set_cons_succ]
        refine rg_take (v := ?v17_2) rfl rfl hS8 ?y17_2 ?_
        case y17_2 => intro W hW; (try subst hW); go_simp; try with_reducible rfl
        simp only [Act.put, List.setIfInBounds_toArray, List.set_cons_zero, List.set_cons_succ]
        refine rg_take rfl rfl hS8 (fun W hW => exec_isub _ _ rfl _ _ (((n - 1 : Nat) : Int)) rfl rfl (by omega) (by omega)) ?_
        simp only [Act.put, List.setIfInBounds_toArray, List.set_cons_zero, List.set_cons_succ]
        refine rg_take rfl rfl hS8 (fun W hW => exec_siaz Try.underlying132 sz25 _ _ rfl pa n c (n - 1) _ rfl rfl (by omega)) ?_
        simp only [Act.put, List.setIfInBounds_toArray, List.set_cons_zero, List.set_cons_succ]
        refine rg_take rfl rfl hS8 (fun W hW => exec_arr_all_ad ia25 _ rfl (pa.add ((n - 1) * 32)) rfl) ?_
        simp only [Act.put, List.setIfInBounds_toArray, List.set_cons_zero, List.set_cons_succ]
        refine rg_one rfl rfl ?_; intro K hK
        refine wp_copy_mid bt (.tmp 21) (.tmp 26) rfl gy (0 + 33) (65 - 33) (65 - 33) (pa.add ((n - 1) * 32)) 32 32 rfl rfl 191 _ RT hv2.drew ((hrd.below hv3).drew) HRL.out (by simp [bvs_length, zb_length, HDL.out]) 32 rfl ?_
        intro wu hu1 hgu hsu
        clear hsu
        have hAu := any_at wu
        refine hK _ _ (fun _ => hAu) ?_; clear hK
        refine rg_done (by kernel_rfl) ?_
        rw [splice_bvs] at hu1
        have hu2 : Blk wu gy 191 (bvs (5 :: (HD ++ RT))) := by rw [← P2.out]; exact hu1
        have hu3 : Below w.heap.size w wu := hv3.drew.grown hgu hv3.size (by intro k hk; cases hk; exact hgw)
        go_upto_region 9 with fail
        refine wp_region_lit ?_
        refine wpList_yield rfl _ (exec_arr_all ia191 _ rfl gy 0 rfl) ?_
        simp only [Act.put, List.setIfInBounds_toArray, List.set_cons_zero, List.set_cons_succ]
        refine wpList_yield rfl _ (exec_assign _ rfl) ?_
        simp only [Act.put, Act.eval, Array.getD_eq_getD_getElem?, List.getElem?_toArray, List.getElem?_cons_succ, List.getElem?_cons_zero, Option.getD_some, List.setIfInBounds_toArray, List.set_cons_zero, List.set_cons_succ]
        refine wpList_nil ?_
        go_wp2_with fail
        go_ret
        exact ⟨_, 65, rfl, ⟨by simp [HDL.out, HRL.out], Nat.le_refl _, by unfold maxLen; omega, Rd.of_blk0 (es := []) (by simpa using hu2), fun _ _ h => h⟩, fun ad e => by cases e; exact hgw, hu3⟩
    · intro K hK; go_simp
      have hgz0 : w.heap.size ≤ wc.heap.size := hS.size
      have hS' : Below w.heap.size w (wc.alloc (.cells (bvs (zb 32)).toArray 25)) := hS.alloc hS.size _
      have xz' : Blk (wc.alloc (.cells (bvs (zb 32)).toArray 25)) wc.heap.size 25 (bvs (zb 32)) := Blk.new _ _ _
      refine hK _ _ (fun _ => hS') ?_; clear hK
      generalize hWn : World.alloc wc _ = wn
      have hS : Below w.heap.size w wn := by rw [← hWn]; exact hS'
      have xz : Blk wn wc.heap.size 25 (bvs (zb 32)) := by rw [← hWn]; exact xz'
      clear hWn hS' xz'
      generalize wc.heap.size = gz at *
      rename World => wc
      refine rg_more [0, 5, 7] 0 (by kernel_rfl) ?_
      simp only [pick, List.map_cons, List.map_nil, List.getD_cons_zero, List.getD_cons_succ]
      refine rg_one rfl rfl ?_; intro K hK; go_simp
      with_reducible refine (C1 _).out.mono ?_
      rintro e wc ⟨rfl, hn⟩
      have hS := hS.trans (hn.mono hS.size)
      (try have xz := xz.below hn xz.lt)
      refine hK _ _ (fun _ => hS) ?_; clear hK hn
      refine rg_one rfl rfl ?_; intro K hK; go_simp
      with_reducible refine (C2 _ hS).out.mono ?_
      rintro e wc ⟨rfl, hn⟩
      have hS := hS.trans (hn.mono hS.size)
      (try have xz := xz.below hn xz.lt)
      refine hK _ _ (fun _ => hS) ?_; clear hK hn
      refine rg_one rfl rfl ?_; intro K hK
      refine wp_store_at at25w.i (.tmp 4) (.tmp 16) rfl gz 0 25 (bvs (zb 32)) (bvs HD) rfl rfl xz (by rw [bvs_length]; exact HDL.out) (by rw [bvs_length, zb_length]; omega) (bvs_one _) ?_
      intro wz hbz hgz hsz
      clear hsz
      refine hK _ _ (fun h => by cases h) ?_; clear hK
      refine rg_done (by kernel_rfl) ?_
      rw [splice_all _ _ (by rw [bvs_length, bvs_length, zb_length]; exact HDL.out.symm)] at hbz
      have hz1 : Below w.heap.size w wz := hS.grown hgz hS.size (by intro k hk; cases hk; exact hgz0)
      have q1 : Blk (wz.alloc (.cells (bvs (zb 65)).toArray 191)) wz.heap.size 191 (bvs (zb 65)) := Blk.new _ _ _
      have q2 := hbz.alloc (.cells (bvs (zb 65)).toArray 191)
      have q3 : Below w.heap.size w (wz.alloc (.cells (bvs (zb 65)).toArray 191)) := hz1.alloc hz1.size _
      have hlt := hbz.lt
      have hgw := hz1.size
      go_upto_region 6 with fail
      generalize hWq : World.alloc wz _ = wy
      have r1 : Blk wy wz.heap.size 191 (bvs (zb 65)) := by rw [← hWq]; exact q1
      have r2 : Blk wy gz 25 (bvs HD) := by rw [← hWq]; exact q2
      have r3 : Below w.heap.size w wy := by rw [← hWq]; exact q3
      clear hWq q1 q2 q3
      generalize wz.heap.size = gy at *
      refine wp_region_lit ?_
      refine wpList_yield rfl _ (exec_ia0 ia191 _ _ rfl gy 0 _ rfl rfl (by decide)) ?_
      simp only [Act.put, List.setIfInBounds_toArray, List.set_cons_zero, List.set_cons_succ]
      refine wpList_store_one rfl one5 (.tmp 17) _ rfl gy 0 191 (bvs (zb 65)) (.int .u8 5) rfl rfl rfl r1 (by rw [bvs_length, zb_length]; decide) ?_
      (try simp only [Act.put, List.setIfInBounds_toArray, List.set_cons_zero, List.set_cons_succ])
      refine wpList_nil ?_
      have s1 := r1.set_ 0 (.int .u8 5)
      rw [put5_0] at s1
      have s2 := r2.far (p := ⟨gy, 0, none⟩) (by simp; omega) (.int .u8 5)
      have s3 := r3.setCell (p := ⟨gy, 0, none⟩) hgw (.int .u8 5)
      generalize World.setCell wy _ _ = wx at *
      go_upto_region 7 with fail
      refine rg_begin (Any) [] [2] [0, 1, 2] 0 mixed (by kernel_rfl) (fun _ _ _ _ e hh => ⟨e.symm.trans hh.1, hh.2⟩) ?_
      simp only [pick, List.map_cons, List.map_nil, List.getD_cons_zero, List.getD_cons_succ]
      have hS7 : (Any) _ := any_at wx.drew
      refine rg_take rfl rfl hS7 (fun W hW => exec_arr_from ia191 _ _ rfl gy 0 1 _ rfl rfl (by decide)) ?_
      simp only [Act.put, List.setIfInBounds_toArray, List.set_cons_zero, List.set_cons_succ]
      refine rg_take rfl rfl hS7 (fun W hW => exec_arr_all ia25 _ rfl gz 0 rfl) ?_
      simp only [Act.put, List.setIfInBounds_toArray, List.set_cons_zero, List.set_cons_succ]
      refine rg_one rfl rfl ?_; intro K hK
      refine wp_copy_mid bt (.tmp 18) (.tmp 19) rfl gy (0 + 1) (65 - 1) (65 - 1) ⟨gz, 0, none⟩ 32 32 rfl rfl 191 _ HD s1.drew (Rd.of_blk0 (es := []) (by simpa using s2.drew)) HDL.out (by simp [bvs_length, zb_length]) 32 rfl ?_
      intro wv hv1 hgv hsv
      clear hsv
      have hAv := any_at wv
      refine hK _ _ (fun _ => hAv) ?_; clear hK
      refine rg_done (by kernel_rfl) ?_
      rw [splice_bvs] at hv1
      have hv2 : Blk wv gy 191 (bvs (5 :: (HD ++ zb 32))) := by rw [← P1.out]; exact hv1
      have hv3 : Below w.heap.size w wv := s3.drew.grown hgv s3.size (by intro k hk; cases hk; exact hgw)
      clear hv1 s1 s2 r1 r2 r3 hgv
      go_upto_region 8 with fail
      refine rg_begin (Any) [] [6] [0, 1, 2, 3, 4, 5, 6] 0 mixed (by kernel_rfl) (fun _ _ _ _ e hh => ⟨e.symm.trans hh.1, hh.2⟩) ?_
      simp only [pick, List.map_cons, List.map_nil, List.getD_cons_zero, List.getD_cons_succ]
      have hS8 : (Any) _ := any_at wv.drew
      refine rg_take rfl rfl hS8 (fun W hW => exec_arr_from ia191 _ _ rfl gy 0 33 _ rfl rfl (by decide)) ?_
      simp only [Act.put, List.setIfInBounds_toArray, List.set_cons_zero, List.set_cons_succ]
      refine rg_take (v := ?v19_1) rfl rfl hS8 ?y19_1 ?_
      case y19_1 => intro W hW; (try subst hW); go_simp; try with_reducible rfl
      simp only [Act.put, List.setIfInBounds_toArray, List.set_cons_zero, List.set_cons_succ]
      refine rg_take (v := ?v19_2) rfl rfl hS8 ?y19_2 ?_
      case y19_2 => intro W hW; (try subst hW); go_simp; try with_reducible rfl
      simp only [Act.put, List.setIfInBounds_toArray, List.set_cons_zero, List.set_cons_succ]
      refine rg_take rfl rfl hS8 (fun W hW => exec_isub _ _ rfl _ _ (((n - 1 : Nat) : Int)) rfl rfl (by omega) (by omega)) ?_
      simp only [Act.put, List.setIfInBounds_toArray, List.set_cons_zero, List.set_cons_succ]
      refine rg_take rfl rfl hS8 (fun W hW => exec_siaz Try.underlying132 sz25 _ _ rfl pa n c (n - 1) _ rfl rfl (by omega)) ?_
      simp only [Act.put, List.setIfInBounds_toArray, List.set_cons_zero, List.set_cons_succ]
      refine rg_take rfl rfl hS8 (fun W hW => exec_arr_all_ad ia25 _ rfl (pa.add ((n - 1) * 32)) rfl) ?_
      simp only [Act.put, List.setIfInBounds_toArray, List.set_cons_zero, List.set_cons_succ]
      refine rg_one rfl rfl ?_; intro K hK
      refine wp_copy_mid bt (.tmp 21) (.tmp 26) rfl gy (0 + 33) (65 - 33) (65 - 33) (pa.add ((n - 1) * 32)) 32 32 rfl rfl 191 _ RT hv2.drew ((hrd.below hv3).drew) HRL.out (by simp [bvs_length, zb_length, HDL.out]) 32 rfl ?_
      intro wu hu1 hgu hsu
      clear hsu
      have hAu := any_at wu
      refine hK _ _ (fun _ => hAu) ?_; clear hK
      refine rg_done (by kernel_rfl) ?_
      rw [splice_bvs] at hu1
      have hu2 : Blk wu gy 191 (bvs (5 :: (HD ++ RT))) := by rw [← P2.out]; exact hu1
      have hu3 : Below w.heap.size w wu := hv3.drew.grown hgu hv3.size (by intro k hk; cases hk; exact hgw)
      go_upto_region 9 with fail
      refine wp_region_lit ?_
      refine wpList_yield rfl _ (exec_arr_all ia191 _ rfl gy 0 rfl) ?_
      simp only [Act.put, List.setIfInBounds_toArray, List.set_cons_zero, List.set_cons_succ]
      refine wpList_yield rfl _ (exec_assign _ rfl) ?_
      simp only [Act.put, Act.eval, Array.getD_eq_getD_getElem?, List.getElem?_toArray, List.getElem?_cons_succ, List.getElem?_cons_zero, Option.getD_some, List.setIfInBounds_toArray, List.set_cons_zero, List.set_cons_succ]
      refine wpList_nil ?_
      go_wp2_with fail
      go_ret
      exact ⟨_, 65, rfl, ⟨by simp [HDL.out, HRL.out], Nat.le_refl _, by unfold maxLen; omega, Rd.of_blk0 (es := []) (by simpa using hu2), fun _ _ h => h⟩, fun ad e => by cases e; exact hgw, hu3⟩
end Go.Proofs.Ytehbahobkgoapaa
namespace Go.Proofs.Ytehbahobkgoapaa
open Go Go.RowKit
set_option linter.unusedSimpArgs false
set_option linter.unusedVariables false
theorem at124 : AT Try.prog 124 2 := ⟨⟨_, Try.underlying124, rfl⟩, by kernel_rfl⟩
end Go.Proofs.Ytehbahobkgoapaa
namespace Go.Proofs.Ytehbahobkgoapaa
open Go Go.RowKit
set_option linter.unusedSimpArgs false
set_option linter.unusedVariables false
def clashP : Nat → List (List UInt8) → List (List UInt8) → List UInt8 × List UInt8
  | 0, a, b => (txtH a, txtH b)
  | f + 1, a, b => if txtH a == txtH b then clashP f (a.take (a.length - 1)) (b.take (b.length - 1)) else (txtH a, txtH b)
def clashes (a b : List (List UInt8)) : Bool := !(a == b) && (foldH firstH a == foldH firstH b)
def clashR (a b : List (List UInt8)) : List UInt8 × List UInt8 := if clashes a b then clashP a.length a b else ([], [])
theorem txtH_length (ls : List (List UInt8)) (n : Nat) (hl : ls.length = n) (he : ∀ l ∈ ls, l.length = 32) : (txtH ls).length = txtN n := by
  unfold txtN
  by_cases h0 : n = 0
  · rw [txtH_nil ls (by omega), if_pos h0]; rfl
  · rw [txtH_cons ls n hl (by omega), if_neg h0, List.length_cons, List.length_append, foldH_length _ _ firstH_length]
    rw [List.getD_eq_getElem?_getD, List.getElem?_eq_getElem (by omega), Option.getD_some, he _ (List.getElem_mem (by omega))]
theorem take_last (a : List (List UInt8)) (h : 0 < a.length) : a.take (a.length - 1) ++ [a.getD (a.length - 1) []] = a := by
  have e := List.take_succ_eq_append_getElem (l := a) (i := a.length - 1) (by omega)
  rw [show a.length - 1 + 1 = a.length by omega, List.take_length] at e
  rw [List.getD_eq_getElem?_getD, List.getElem?_eq_getElem (by omega), Option.getD_some]
  exact e.symm
theorem txt_eq (a b : List (List UInt8)) (ha : ∀ l ∈ a, l.length = 32) (hb : ∀ l ∈ b, l.length = 32) (hab : a ≠ b) (h : txtH a = txtH b) :
    0 < a.length ∧ 0 < b.length ∧ a.take (a.length - 1) ≠ b.take (b.length - 1) ∧ foldH firstH (a.take (a.length - 1)) = foldH firstH (b.take (b.length - 1)) := by
  have la := txtH_length a _ rfl ha
  have lb := txtH_length b _ rfl hb
  rw [h, lb] at la
  have h1 : 0 < a.length := by
    apply Nat.pos_of_ne_zero
    intro h0
    have hb0 : b.length = 0 := by
      apply Nat.eq_zero_of_not_pos
      intro hp
      unfold txtN at la
      rw [if_pos h0, if_neg (by omega)] at la
      omega
    exact hab ((List.eq_nil_of_length_eq_zero h0).trans (List.eq_nil_of_length_eq_zero hb0).symm)
  have h2 : 0 < b.length := by
    apply Nat.pos_of_ne_zero
    intro h0
    unfold txtN at la
    rw [if_pos h0, if_neg (by omega)] at la
    omega
  rw [txtH_cons a _ rfl h1, txtH_cons b _ rfl h2] at h
  obtain ⟨e1, e2⟩ := List.append_inj (List.cons.inj h).2 (by rw [foldH_length _ _ firstH_length, foldH_length _ _ firstH_length])
  refine ⟨h1, h2, fun e => hab ?_, e1⟩
  rw [← take_last a h1, ← take_last b h2, e, e2]
theorem clash_step (a b : List (List UInt8)) (f : Nat) (hf : a.length = f) (h0 : 0 < f) (h : txtH a = txtH b) : clashP f a b = clashP (a.take (a.length - 1)).length (a.take (a.length - 1)) (b.take (b.length - 1)) := by
  obtain ⟨g, rfl⟩ : ∃ g, f = g + 1 := ⟨f - 1, by omega⟩
  rw [clashP, if_pos (by rw [h]; simp), List.length_take, hf]
  congr 1
  omega
theorem clash_done (a b : List (List UInt8)) (f : Nat) (h : txtH a ≠ txtH b) : clashP f a b = (txtH a, txtH b) := by
  cases f with
  | zero => rfl
  | succ f => rw [clashP, if_neg (by simpa using h)]
theorem Tx.grown {w w' : World} {A : Option Addr} {n c : Nat} {l : List UInt8} {g : Nat} (h : Tx w A n c l) (hg : w.grownBy w' (some g)) (hne : ∀ ad, A = some ad → ad.block ≠ g) : Tx w' A n c l :=
  ⟨h.len, h.cap, h.max, h.rd.fr ((Fr.refl (· = g) w).grown hg (by intro k hk; cases hk; exact .inl rfl)) (fun ad e q => hne ad e q), fun _ _ h => h⟩
/-- While the lists are shortened. -/
def ClS (N : Nat) (w : World) (res : List UInt8 × List UInt8) (v u : Value) (wr : World) : Prop :=
  ∃ (a b : List (List UInt8)) (A : Option Addr) (n c : Nat) (B : Option Addr) (m d : Nat), v = .slice A n c ∧ u = .slice B m d ∧ Hl w A n c a ∧ Hl w B m d b ∧ a ≠ b ∧ foldH firstH a = foldH firstH b ∧ clashP a.length a b = res ∧
    Blk wr N 124 [.slice none 0 0, .slice none 0 0] ∧ Below w.heap.size w wr
set_option maxRecDepth 100000 in
set_option maxHeartbeats 8000000 in
theorem clash102 (A : Option Addr) (n c : Nat) (a : List (List UInt8)) (B : Option Addr) (m d : Nat) (b : List (List UInt8)) (w : World) (h1 : Hl w A n c a) (h2 : Hl w B m d b) :
    Calls Try.prog 102 #[.slice A n c, .slice B m d] w fun e w' => ∃ A1 n1 c1 A2 n2 c2, e = .returned (.tuple #[.agg #[.slice A1 n1 c1, .slice A2 n2 c2], .bool (clashes a b)]) ∧ Tx w' A1 n1 c1 (clashR a b).1 ∧ Tx w' A2 n2 c2 (clashR a b).2 ∧ Below w.heap.size w w' := by
  have bz : Blk (w.alloc (.cells #[.slice none 0 0, .slice none 0 0] 124)) w.heap.size 124 [.slice none 0 0, .slice none 0 0] := Blk.new w 124 [.slice none 0 0, .slice none 0 0]
  have hw0 : Below w.heap.size w (w.alloc (.cells #[.slice none 0 0, .slice none 0 0] 124)) := (Below.refl _ _).alloc (Nat.le_refl _) _
  have CS := fun (u : World) (hu : Below w.heap.size w u) => Lib.hid (sameL143 A n c a B m d b u (h1.below hu) (h2.below hu) (a == b) rfl)
  have CF := fun u => Lib.hid (cfirst_any u)
  have CA := fun (u : World) (hu : Below w.heap.size w u) => Lib.hid (fold_any firstH A n c a u firstH_length (h1.below hu))
  have CB := fun (u : World) (hu : Below w.heap.size w u) => Lib.hid (fold_any firstH B m d b u firstH_length (h2.below hu))
  rw [show shaL [4] = firstH from rfl] at CF
  have LA : Hid ((foldH firstH a).length = 32) := Lib.hid (foldH_length _ _ firstH_length)
  have LB : Hid ((foldH firstH b).length = 32) := Lib.hid (foldH_length _ _ firstH_length)
  have hnil : ∀ u : World, Tx u none 0 0 [] := fun u => ⟨rfl, Nat.le_refl _, Nat.zero_le _, Rd.nil _ _, fun _ _ h => h⟩
  by_cases hab : a = b
  · have e1 : (a == b) = true := by simp [hab]
    have e2 : clashes a b = false := by unfold clashes; rw [e1]; rfl
    have e3 : clashR a b = ([], []) := by unfold clashR; rw [e2]; rfl
    rw [e2, e3]
    rw [e1] at CS
    clear e1 e2 e3 hab CF CA CB LA LB
    go_enter Try.func102, Try.ntmps102
    go_upto_region 1 with fail
    generalize hW : World.alloc w _ = w0
    have h3 : Blk w0 w.heap.size 124 [.slice none 0 0, .slice none 0 0] ∧ Below w.heap.size w w0 := by rw [← hW]; exact ⟨bz, hw0⟩
    clear hW bz hw0
    obtain ⟨bz, hw0⟩ := h3
    refine wp_region_lit ?_
    refine wpList_yield rfl _ (exec_move _ rfl) ?_
    simp only [Act.put, Act.eval, Array.getD_eq_getD_getElem?, List.getElem?_toArray, List.getElem?_cons_succ, List.getElem?_cons_zero, Option.getD_some, List.setIfInBounds_toArray, List.set_cons_zero, List.set_cons_succ]
    refine wpList_yield rfl _ (exec_move _ rfl) ?_
    simp only [Act.put, Act.eval, Array.getD_eq_getD_getElem?, List.getElem?_toArray, List.getElem?_cons_succ, List.getElem?_cons_zero, Option.getD_some, List.setIfInBounds_toArray, List.set_cons_zero, List.set_cons_succ]
    refine wpList_plain rfl fun K hK => ?_; go_simp
    with_reducible refine (CS _ hw0).out.mono ?_
    rintro e w1 ⟨rfl, hw1⟩
    refine hK _ _ ?_; clear hK
    (try simp only [Act.put, List.setIfInBounds_toArray, List.set_cons_zero, List.set_cons_succ])
    refine wpList_yield rfl _ (exec_move _ rfl) ?_
    simp only [Act.put, Act.eval, Array.getD_eq_getD_getElem?, List.getElem?_toArray, List.getElem?_cons_succ, List.getElem?_cons_zero, Option.getD_some, List.setIfInBounds_toArray, List.set_cons_zero, List.set_cons_succ]
    refine no_implicit_lambda% (wpList_skip_w ?k1_4 ?_)
    case k1_4 => rfl
    simp only [Act.put, List.setIfInBounds_toArray, List.set_cons_zero, List.set_cons_succ]
    refine no_implicit_lambda% (wpList_skip_w ?k2_5 ?_)
    case k2_5 => rfl
    simp only [Act.put, List.setIfInBounds_toArray, List.set_cons_zero, List.set_cons_succ]
    refine no_implicit_lambda% (wpList_skip_w ?k3_6 ?_)
    case k3_6 => rfl
    simp only [Act.put, List.setIfInBounds_toArray, List.set_cons_zero, List.set_cons_succ]
    refine no_implicit_lambda% (wpList_skip_w ?k4_7 ?_)
    case k4_7 => rfl
    simp only [Act.put, List.setIfInBounds_toArray, List.set_cons_zero, List.set_cons_succ]
    refine no_implicit_lambda% (wpList_skip_w ?k5_8 ?_)
    case k5_8 => rfl
    simp only [Act.put, List.setIfInBounds_toArray, List.set_cons_zero, List.set_cons_succ]
    refine no_implicit_lambda% (wpList_skip_w ?k6_9 ?_)
    case k6_9 => rfl
    simp only [Act.put, List.setIfInBounds_toArray, List.set_cons_zero, List.set_cons_succ]
    refine no_implicit_lambda% (wpList_skip_w ?k7_10 ?_)
    case k7_10 => rfl
    simp only [Act.put, List.setIfInBounds_toArray, List.set_cons_zero, List.set_cons_succ]
    refine wpList_yield rfl ?vp8_11 ?yp8_11 ?_
    case yp8_11 => go_simp; try with_reducible rfl
    simp only [Act.put, List.setIfInBounds_toArray, List.set_cons_zero, List.set_cons_succ]
    refine wpList_nil ?_
    go_upto_region 2 with fail
    refine wp_region_lit ?_
    refine wpList_yield rfl _ (exec_build _ rfl #[.slice none 0 0, .slice none 0 0] (by kernel_rfl)) ?_
    simp only [Act.put, List.setIfInBounds_toArray, List.set_cons_zero, List.set_cons_succ]
    refine wpList_store_at at124.i rfl (.tmp 4) (.tmp 20) rfl w.heap.size 0 124 [.slice none 0 0, .slice none 0 0] [.slice none 0 0, .slice none 0 0] rfl rfl (bz.below hw1 bz.lt) rfl (Nat.le_refl 2) (by simp [Value.oneCell']) ?_
    intro w2 hb2 hg2 hs2
    (try simp only [Act.put, List.setIfInBounds_toArray, List.set_cons_zero, List.set_cons_succ])
    refine wpList_yield rfl _ (exec_assign _ rfl) ?_
    simp only [Act.put, Act.eval, Array.getD_eq_getD_getElem?, List.getElem?_toArray, List.getElem?_cons_succ, List.getElem?_cons_zero, Option.getD_some, List.setIfInBounds_toArray, List.set_cons_zero, List.set_cons_succ]
    refine wpList_nil ?_
    go_wp2_with fail
    (try simp only [Exit.inBlock, Exit.then])
    rw [splice_all _ _ (by rfl)] at hb2
    refine bodyPost_ret (ret_cell_tmp rfl at124 _ _ w.heap.size 124 _ rfl hb2 rfl) rfl ?_
    exact ⟨none, 0, 0, none, 0, 0, rfl, hnil _, hnil _, (bthen hw0 hw1 hw0.size).grown hg2 (Nat.le_trans hw0.size hw1.size) (by intro k hk; cases hk; omega)⟩
  · have e1 : (a == b) = false := by simp [hab]
    rw [e1] at CS
    by_cases hfo : foldH firstH a = foldH firstH b
    · have e2 : clashes a b = true := by unfold clashes; rw [e1, hfo]; simp
      have e3 : clashR a b = clashP a.length a b := by unfold clashR; rw [e2]; rfl
      rw [e2, e3]
      have hD : Hid ((foldH firstH a == foldH firstH b) = !false) := Lib.hid (by rw [hfo]; simp)
      have hst : ∀ (u : World), Blk u w.heap.size 124 [.slice none 0 0, .slice none 0 0] → Below w.heap.size w u → ClS w.heap.size w (clashP a.length a b) (.slice A n c) (.slice B m d) u := fun u x y => ⟨a, b, A, n, c, B, m, d, rfl, rfl, h1, h2, hab, hfo, rfl, x, y⟩
      clear e1 e2 e3 hab hfo h1 h2
      generalize clashP a.length a b = res at *
      generalize foldH firstH a = fa at *
      generalize foldH firstH b = fb at *
      generalize firstH = FH at CF CA CB
      unfold arr8 at *
      go_enter Try.func102, Try.ntmps102
      go_upto_region 1 with fail
      generalize hW : World.alloc w _ = w0
      have h3 : Blk w0 w.heap.size 124 [.slice none 0 0, .slice none 0 0] ∧ Below w.heap.size w w0 := by rw [← hW]; exact ⟨bz, hw0⟩
      clear hW bz hw0
      obtain ⟨bz, hw0⟩ := h3
      refine wp_region_lit ?_
      refine wpList_yield rfl _ (exec_move _ rfl) ?_
      simp only [Act.put, Act.eval, Array.getD_eq_getD_getElem?, List.getElem?_toArray, List.getElem?_cons_succ, List.getElem?_cons_zero, Option.getD_some, List.setIfInBounds_toArray, List.set_cons_zero, List.set_cons_succ]
      refine wpList_yield rfl _ (exec_move _ rfl) ?_
      simp only [Act.put, Act.eval, Array.getD_eq_getD_getElem?, List.getElem?_toArray, List.getElem?_cons_succ, List.getElem?_cons_zero, Option.getD_some, List.setIfInBounds_toArray, List.set_cons_zero, List.set_cons_succ]
      refine wpList_plain rfl fun K hK => ?_; go_simp
      with_reducible refine (CS _ hw0).out.mono ?_
      rintro e w1 ⟨rfl, hw1⟩
      have hB1 := bthen hw0 hw1 hw0.size
      refine hK _ _ ?_; clear hK
      (try simp only [Act.put, List.setIfInBounds_toArray, List.set_cons_zero, List.set_cons_succ])
      refine wpList_yield rfl _ (exec_move _ rfl) ?_
      simp only [Act.put, Act.eval, Array.getD_eq_getD_getElem?, List.getElem?_toArray, List.getElem?_cons_succ, List.getElem?_cons_zero, Option.getD_some, List.setIfInBounds_toArray, List.set_cons_zero, List.set_cons_succ]
      refine wpList_plain_w rfl fun K hK => ?_; go_simp
      with_reducible refine (CF _).out.mono ?_
      rintro e w2 ⟨rfl, hw2⟩
      have hB2 := bthen hB1 hw2 hB1.size
      refine hK _ _ ?_; clear hK
      (try simp only [Act.put, List.setIfInBounds_toArray, List.set_cons_zero, List.set_cons_succ])
      refine wpList_yield_w rfl _ (exec_move _ rfl) ?_
      simp only [Act.put, Act.eval, Array.getD_eq_getD_getElem?, List.getElem?_toArray, List.getElem?_cons_succ, List.getElem?_cons_zero, Option.getD_some, List.setIfInBounds_toArray, List.set_cons_zero, List.set_cons_succ]
      refine wpList_plain_w rfl fun K hK => ?_; go_simp
      with_reducible refine (CA _ hB2).out.mono ?_
      rintro e w3 ⟨rfl, hw3⟩
      have hB3 := bthen hB2 hw3 hB2.size
      refine hK _ _ ?_; clear hK
      (try simp only [Act.put, List.setIfInBounds_toArray, List.set_cons_zero, List.set_cons_succ])
      refine wpList_plain_w rfl fun K hK => ?_; go_simp
      with_reducible refine (CF _).out.mono ?_
      rintro e w4 ⟨rfl, hw4⟩
      have hB4 := bthen hB3 hw4 hB3.size
      refine hK _ _ ?_; clear hK
      (try simp only [Act.put, List.setIfInBounds_toArray, List.set_cons_zero, List.set_cons_succ])
      refine wpList_yield_w rfl _ (exec_move _ rfl) ?_
      simp only [Act.put, Act.eval, Array.getD_eq_getD_getElem?, List.getElem?_toArray, List.getElem?_cons_succ, List.getElem?_cons_zero, Option.getD_some, List.setIfInBounds_toArray, List.set_cons_zero, List.set_cons_succ]
      refine wpList_plain_w rfl fun K hK => ?_; go_simp
      with_reducible refine (CB _ hB4).out.mono ?_
      rintro e w5 ⟨rfl, hw5⟩
      have hB5 := bthen hB4 hw5 hB4.size
      refine hK _ _ ?_; clear hK
      (try simp only [Act.put, List.setIfInBounds_toArray, List.set_cons_zero, List.set_cons_succ])
      refine wpList_yield_w rfl _ (exec_neq_to ab25 _ _ rfl fa fb rfl rfl LA.out LB.out hD.out) ?_
      simp only [Act.put, List.setIfInBounds_toArray, List.set_cons_zero, List.set_cons_succ]
      refine wpList_yield rfl ?vp9_11 ?yp9_11 ?_
      case yp9_11 => go_simp; try with_reducible rfl
      simp only [Act.put, List.setIfInBounds_toArray, List.set_cons_zero, List.set_cons_succ]
      refine wpList_nil ?_
      have b9 := (((((bz.below hw1 bz.lt).below hw2 (bz.below hw1 bz.lt).lt).below hw3 ((bz.below hw1 bz.lt).below hw2 (bz.below hw1 bz.lt).lt).lt)).below (hw4.trans (hw5.mono hw4.size)) (((bz.below hw1 bz.lt).below hw2 (bz.below hw1 bz.lt).lt).below hw3 ((bz.below hw1 bz.lt).below hw2 (bz.below hw1 bz.lt).lt).lt).lt)
      have hb9 := hB5
      clear hB1 hB2 hB3 hB4 hB5 hw1 hw2 hw3 hw4 hw5 bz hw0 CS CF CA CB
      go_wp2_with fail
      go_loopw [0, 1] (fun v u wr => ClS w.heap.size w res v u wr) (fun v _ _ => sliceLen v)
      case atStart => exact hst _ b9 hb9
      case round =>
        clear hst b9 hb9
        obtain ⟨a, b, A, n, c, B, m, d, rfl, rfl, h1, h2, hab, hfo, hres, bz, hw0⟩ := hrel
        have T1 := fun (u : World) (hu : Below w.heap.size w u) => Lib.hid (chain_txt A n c a u (h1.below hu))
        have T2 := fun (u : World) (hu : Below w.heap.size w u) => Lib.hid (chain_txt B m d b u (h2.below hu))
        go_upto_region 3 with fail
        refine wp_region_lit ?_
        refine wpList_yield rfl _ (exec_move _ rfl) ?_
        simp only [Act.put, Act.eval, Array.getD_eq_getD_getElem?, List.getElem?_toArray, List.getElem?_cons_succ, List.getElem?_cons_zero, Option.getD_some, List.setIfInBounds_toArray, List.set_cons_zero, List.set_cons_succ]
        refine wpList_plain rfl fun K hK => ?_; go_simp
        with_reducible refine (T1 _ hw0).out.mono ?_
        rintro e w1 ⟨A1, c1, rfl, x1, f1, hw1⟩
        have hB1 := bthen hw0 hw1 hw0.size
        refine hK _ _ ?_; clear hK
        (try simp only [Act.put, List.setIfInBounds_toArray, List.set_cons_zero, List.set_cons_succ])
        refine wpList_yield rfl _ (exec_move _ rfl) ?_
        simp only [Act.put, Act.eval, Array.getD_eq_getD_getElem?, List.getElem?_toArray, List.getElem?_cons_succ, List.getElem?_cons_zero, Option.getD_some, List.setIfInBounds_toArray, List.set_cons_zero, List.set_cons_succ]
        refine wpList_plain rfl fun K hK => ?_; go_simp
        with_reducible refine (T2 _ hB1).out.mono ?_
        rintro e w2 ⟨A2, c2, rfl, x2, f2, hw2⟩
        have hB2 := bthen hB1 hw2 hB1.size
        refine hK _ _ ?_; clear hK
        (try simp only [Act.put, List.setIfInBounds_toArray, List.set_cons_zero, List.set_cons_succ])
        refine wpList_yield rfl _ (exec_assign _ rfl) ?_
        simp only [Act.put, Act.eval, Array.getD_eq_getD_getElem?, List.getElem?_toArray, List.getElem?_cons_succ, List.getElem?_cons_zero, Option.getD_some, List.setIfInBounds_toArray, List.set_cons_zero, List.set_cons_succ]
        refine wpList_yield rfl _ (exec_assign _ rfl) ?_
        simp only [Act.put, Act.eval, Array.getD_eq_getD_getElem?, List.getElem?_toArray, List.getElem?_cons_succ, List.getElem?_cons_zero, Option.getD_some, List.setIfInBounds_toArray, List.set_cons_zero, List.set_cons_succ]
        refine wpList_nil ?_
        have x1 := x1.below hw2
        have k1 : ∀ ad, A1 = some ad → ad.block ≠ w.heap.size := fun ad e q => by have h3 := f1 ad e; have h4 := bz.lt; omega
        have k2 : ∀ ad, A2 = some ad → ad.block ≠ w.heap.size := fun ad e q => by have h3 := f2 ad e; have h4 := bz.lt; have h5 := hw1.size; omega
        have bz := (bz.below hw1 bz.lt).below hw2 (bz.below hw1 bz.lt).lt
        clear T1 T2 hw1 hw2 hB1 hw0 f1 f2
        go_upto_region 4 with fail
        by_cases htx : txtH a = txtH b
        · obtain ⟨p1, p2, p3, p4⟩ := txt_eq a b h1.each h2.each hab htx
          have hstep := clash_step a b a.length rfl p1 htx
          rw [hres] at hstep
          rw [h1.len] at p1 p3 p4 hstep
          rw [h2.len] at p2 p3 p4 hstep
          have n1 : (n : Int) - 1 = ((n - 1 : Nat) : Int) := by omega
          have hc1 := h1.cap
          have hc2 := h2.cap
          have hm1 := h1.max
          have hm2 := h2.max
          unfold maxLen at hm1 hm2
          have HE : Hid ((txtH a == txtH b) = !false) := Lib.hid (by rw [htx]; simp)
          have g1 := h1.to (n - 1) (by omega)
          have g2 := h2.to (m - 1) (by omega)
          have HN : ∀ (u : World), Blk u w.heap.size 124 [.slice none 0 0, .slice none 0 0] → Below w.heap.size w u → ClS w.heap.size w res (.slice A (n - 1) c) (.slice B (m - 1) d) u := fun u x y => ⟨_, _, A, n - 1, c, B, m - 1, d, rfl, rfl, g1, g2, p3, p4, hstep.symm, x, y⟩
          have HNN := Lib.hid HN
          clear HN g1 g2 p3 p4 hstep hres hab hfo htx h1 h2 n1
          generalize txtH a = ta at *
          generalize txtH b = tb at *
          refine wp_region_lit ?_
          refine wpList_yield rfl _ (exec_move _ rfl) ?_
          simp only [Act.put, Act.eval, Array.getD_eq_getD_getElem?, List.getElem?_toArray, List.getElem?_cons_succ, List.getElem?_cons_zero, Option.getD_some, List.setIfInBounds_toArray, List.set_cons_zero, List.set_cons_succ]
          refine wpList_yield rfl _ (exec_move _ rfl) ?_
          simp only [Act.put, Act.eval, Array.getD_eq_getD_getElem?, List.getElem?_toArray, List.getElem?_cons_succ, List.getElem?_cons_zero, Option.getD_some, List.setIfInBounds_toArray, List.set_cons_zero, List.set_cons_succ]
          refine wpList_plain rfl fun K hK => ?_; go_simp
          with_reducible refine (sameB145 _ _ _ ta _ _ _ tb _ x1 x2 (ta == tb) rfl).mono ?_
          rintro e w3 ⟨rfl, hw3⟩
          rw [HE.out]
          refine hK _ _ ?_; clear hK
          (try simp only [Act.put, List.setIfInBounds_toArray, List.set_cons_zero, List.set_cons_succ])
          refine wpList_yield rfl ?vp10_3 ?yp10_3 ?_
          case yp10_3 => go_simp; try with_reducible rfl
          simp only [Act.put, List.setIfInBounds_toArray, List.set_cons_zero, List.set_cons_succ]
          refine wpList_nil ?_
          have hB3 := bthen hB2 hw3 hB2.size
          have bz3 := bz.below hw3 bz.lt
          have y1 := x1.below hw3
          have y2 := x2.below hw3
          go_upto_region 6 with fail
          refine rg_begin (Any) [] [] [0, 1, 2, 3, 4, 5, 6, 7, 8, 9, 10, 11] 0 mixed (by kernel_rfl) (fun _ _ _ _ e hh => ⟨e.symm.trans hh.1, hh.2⟩) ?_
          simp only [pick, List.map_cons, List.map_nil, List.getD_cons_zero, List.getD_cons_succ]
          have hS : (Any) _ := any_at w3.drew
          refine rg_take (v := ?v11_0) rfl rfl hS ?y11_0 ?_
          case y11_0 => intro W hW; (try subst hW); go_simp; try with_reducible rfl
          simp only [Act.put, List.setIfInBounds_toArray, List.set_cons_zero, List.set_cons_succ]
          refine rg_take (v := ?v11_1) rfl rfl hS ?y11_1 ?_
          case y11_1 => intro W hW; (try subst hW); go_simp; try with_reducible rfl
          simp only [Act.put, List.setIfInBounds_toArray, List.set_cons_zero, List.set_cons_succ]
          refine rg_take rfl rfl hS (fun W hW => exec_len132 _ rfl A n c rfl) ?_
          simp only [Act.put, List.setIfInBounds_toArray, List.set_cons_zero, List.set_cons_succ]
          refine rg_take rfl rfl hS (fun W hW => exec_isub _ _ rfl _ _ (((n - 1 : Nat) : Int)) rfl rfl (by omega) (by omega)) ?_
          simp only [Act.put, List.setIfInBounds_toArray, List.set_cons_zero, List.set_cons_succ]
          refine rg_take rfl rfl hS (fun W hW => exec_slice_to st132 _ _ rfl A n c (n - 1) .i64 rfl rfl (by omega)) ?_
          simp only [Act.put, List.setIfInBounds_toArray, List.set_cons_zero, List.set_cons_succ]
          refine rg_take (v := ?v11_5) rfl rfl hS ?y11_5 ?_
          case y11_5 => intro W hW; (try subst hW); go_simp; try with_reducible rfl
          simp only [Act.put, List.setIfInBounds_toArray, List.set_cons_zero, List.set_cons_succ]
          refine rg_take (v := ?v11_6) rfl rfl hS ?y11_6 ?_
          case y11_6 => intro W hW; (try subst hW); go_simp; try with_reducible rfl
          simp only [Act.put, List.setIfInBounds_toArray, List.set_cons_zero, List.set_cons_succ]
          refine rg_take rfl rfl hS (fun W hW => exec_len132 _ rfl B m d rfl) ?_
          simp only [Act.put, List.setIfInBounds_toArray, List.set_cons_zero, List.set_cons_succ]
          refine rg_take rfl rfl hS (fun W hW => exec_isub _ _ rfl _ _ (((m - 1 : Nat) : Int)) rfl rfl (by omega) (by omega)) ?_
          simp only [Act.put, List.setIfInBounds_toArray, List.set_cons_zero, List.set_cons_succ]
          refine rg_take rfl rfl hS (fun W hW => exec_slice_to st132 _ _ rfl B m d (m - 1) .i64 rfl rfl (by omega)) ?_
          simp only [Act.put, List.setIfInBounds_toArray, List.set_cons_zero, List.set_cons_succ]
          refine rg_take (v := ?v11_10) rfl rfl hS ?y11_10 ?_
          case y11_10 => intro W hW; (try subst hW); go_simp; try with_reducible rfl
          simp only [Act.put, List.setIfInBounds_toArray, List.set_cons_zero, List.set_cons_succ]
          refine rg_take (v := ?v11_11) rfl rfl hS ?y11_11 ?_
          case y11_11 => intro W hW; (try subst hW); go_simp; try with_reducible rfl
          simp only [Act.put, List.setIfInBounds_toArray, List.set_cons_zero, List.set_cons_succ]
          refine rg_done (by kernel_rfl) ?_
          go_wp2_with fail
          go_roundw
          case rel => exact HNN.out _ bz3.drew hB3.drew
          case measure => simp only [sliceLen]; omega
        · have hr2 := clash_done a b a.length htx
          rw [hres] at hr2
          subst hr2
          have HE : Hid ((txtH a == txtH b) = !true) := Lib.hid (by simp only [Bool.not_true, beq_eq_false_iff_ne]; exact htx)
          clear htx hres hab hfo h1 h2
          obtain ⟨ta, hta⟩ : ∃ t, t = txtH a := ⟨_, rfl⟩
          obtain ⟨tb, htb⟩ : ∃ t, t = txtH b := ⟨_, rfl⟩
          rw [← hta] at HE x1
          rw [← htb] at HE x2
          have HTA := Lib.hid hta
          have HTB := Lib.hid htb
          clear hta htb
          refine wp_region_lit ?_
          refine wpList_yield rfl _ (exec_move _ rfl) ?_
          simp only [Act.put, Act.eval, Array.getD_eq_getD_getElem?, List.getElem?_toArray, List.getElem?_cons_succ, List.getElem?_cons_zero, Option.getD_some, List.setIfInBounds_toArray, List.set_cons_zero, List.set_cons_succ]
          refine wpList_yield rfl _ (exec_move _ rfl) ?_
          simp only [Act.put, Act.eval, Array.getD_eq_getD_getElem?, List.getElem?_toArray, List.getElem?_cons_succ, List.getElem?_cons_zero, Option.getD_some, List.setIfInBounds_toArray, List.set_cons_zero, List.set_cons_succ]
          refine wpList_plain rfl fun K hK => ?_; go_simp
          with_reducible refine (sameB145 _ _ _ ta _ _ _ tb _ x1 x2 (ta == tb) rfl).mono ?_
          rintro e w3 ⟨rfl, hw3⟩
          rw [HE.out]
          refine hK _ _ ?_; clear hK
          (try simp only [Act.put, List.setIfInBounds_toArray, List.set_cons_zero, List.set_cons_succ])
          refine wpList_yield rfl ?vp12_3 ?yp12_3 ?_
          case yp12_3 => go_simp; try with_reducible rfl
          simp only [Act.put, List.setIfInBounds_toArray, List.set_cons_zero, List.set_cons_succ]
          refine wpList_nil ?_
          have hB3 := bthen hB2 hw3 hB2.size
          have bz3 := bz.below hw3 bz.lt
          have y1 := x1.below hw3
          have y2 := x2.below hw3
          go_upto_region 5 with fail
          refine wp_region_lit ?_
          refine wpList_yield rfl _ (exec_move _ rfl) ?_
          simp only [Act.put, Act.eval, Array.getD_eq_getD_getElem?, List.getElem?_toArray, List.getElem?_cons_succ, List.getElem?_cons_zero, Option.getD_some, List.setIfInBounds_toArray, List.set_cons_zero, List.set_cons_succ]
          refine wpList_yield rfl _ (exec_move _ rfl) ?_
          simp only [Act.put, Act.eval, Array.getD_eq_getD_getElem?, List.getElem?_toArray, List.getElem?_cons_succ, List.getElem?_cons_zero, Option.getD_some, List.setIfInBounds_toArray, List.set_cons_zero, List.set_cons_succ]
          refine wpList_yield rfl _ (exec_build _ rfl #[.slice A1 (txtN n) c1, .slice A2 (txtN m) c2] (by kernel_rfl)) ?_
          simp only [Act.put, List.setIfInBounds_toArray, List.set_cons_zero, List.set_cons_succ]
          refine wpList_store_at at124.i rfl (.tmp 4) (.tmp 31) rfl w.heap.size 0 124 [.slice none 0 0, .slice none 0 0] [.slice A1 (txtN n) c1, .slice A2 (txtN m) c2] rfl rfl bz3 rfl (Nat.le_refl 2) (by simp [Value.oneCell']) ?_
          intro w5 hb5 hg5 hs5
          (try simp only [Act.put, List.setIfInBounds_toArray, List.set_cons_zero, List.set_cons_succ])
          refine wpList_yield rfl _ (exec_assign _ rfl) ?_
          simp only [Act.put, Act.eval, Array.getD_eq_getD_getElem?, List.getElem?_toArray, List.getElem?_cons_succ, List.getElem?_cons_zero, Option.getD_some, List.setIfInBounds_toArray, List.set_cons_zero, List.set_cons_succ]
          refine wpList_nil ?_
          go_wp2_with fail
          (try simp only [Exit.inBlock, Exit.then])
          rw [splice_all _ _ (by rfl)] at hb5
          refine bodyPost_ret (ret_cell_tmp rfl at124 _ _ w.heap.size 124 _ rfl hb5 rfl) rfl ?_
          refine ⟨A1, txtN n, c1, A2, txtN m, c2, rfl, ?_, ?_, hB3.grown hg5 hB3.size (by intro k hk; cases hk; omega)⟩
          · exact (by rw [← HTA.out]; exact y1.grown hg5 k1)
          · exact (by rw [← HTB.out]; exact y2.grown hg5 k2)
    · have e2 : clashes a b = false := by unfold clashes; rw [e1]; simpa using hfo
      have e3 : clashR a b = ([], []) := by unfold clashR; rw [e2]; rfl
      rw [e2, e3]
      have hD : Hid ((foldH firstH a == foldH firstH b) = !true) := Lib.hid (by simpa using hfo)
      clear e1 e2 e3 hab hfo h1 h2
      generalize foldH firstH a = fa at *
      generalize foldH firstH b = fb at *
      generalize firstH = FH at CF CA CB
      unfold arr8 at *
      go_enter Try.func102, Try.ntmps102
      go_upto_region 1 with fail
      generalize hW : World.alloc w _ = w0
      have h3 : Blk w0 w.heap.size 124 [.slice none 0 0, .slice none 0 0] ∧ Below w.heap.size w w0 := by rw [← hW]; exact ⟨bz, hw0⟩
      clear hW bz hw0
      obtain ⟨bz, hw0⟩ := h3
      refine wp_region_lit ?_
      refine wpList_yield rfl _ (exec_move _ rfl) ?_
      simp only [Act.put, Act.eval, Array.getD_eq_getD_getElem?, List.getElem?_toArray, List.getElem?_cons_succ, List.getElem?_cons_zero, Option.getD_some, List.setIfInBounds_toArray, List.set_cons_zero, List.set_cons_succ]
      refine wpList_yield rfl _ (exec_move _ rfl) ?_
      simp only [Act.put, Act.eval, Array.getD_eq_getD_getElem?, List.getElem?_toArray, List.getElem?_cons_succ, List.getElem?_cons_zero, Option.getD_some, List.setIfInBounds_toArray, List.set_cons_zero, List.set_cons_succ]
      refine wpList_plain rfl fun K hK => ?_; go_simp
      with_reducible refine (CS _ hw0).out.mono ?_
      rintro e w1 ⟨rfl, hw1⟩
      have hB1 := bthen hw0 hw1 hw0.size
      refine hK _ _ ?_; clear hK
      (try simp only [Act.put, List.setIfInBounds_toArray, List.set_cons_zero, List.set_cons_succ])
      refine wpList_yield rfl _ (exec_move _ rfl) ?_
      simp only [Act.put, Act.eval, Array.getD_eq_getD_getElem?, List.getElem?_toArray, List.getElem?_cons_succ, List.getElem?_cons_zero, Option.getD_some, List.setIfInBounds_toArray, List.set_cons_zero, List.set_cons_succ]
      refine wpList_plain_w rfl fun K hK => ?_; go_simp
      with_reducible refine (CF _).out.mono ?_
      rintro e w2 ⟨rfl, hw2⟩
      have hB2 := bthen hB1 hw2 hB1.size
      refine hK _ _ ?_; clear hK
      (try simp only [Act.put, List.setIfInBounds_toArray, List.set_cons_zero, List.set_cons_succ])
      refine wpList_yield_w rfl _ (exec_move _ rfl) ?_
      simp only [Act.put, Act.eval, Array.getD_eq_getD_getElem?, List.getElem?_toArray, List.getElem?_cons_succ, List.getElem?_cons_zero, Option.getD_some, List.setIfInBounds_toArray, List.set_cons_zero, List.set_cons_succ]
      refine wpList_plain_w rfl fun K hK => ?_; go_simp
      with_reducible refine (CA _ hB2).out.mono ?_
      rintro e w3 ⟨rfl, hw3⟩
      have hB3 := bthen hB2 hw3 hB2.size
      refine hK _ _ ?_; clear hK
      (try simp only [Act.put, List.setIfInBounds_toArray, List.set_cons_zero, List.set_cons_succ])
      refine wpList_plain_w rfl fun K hK => ?_; go_simp
      with_reducible refine (CF _).out.mono ?_
      rintro e w4 ⟨rfl, hw4⟩
      have hB4 := bthen hB3 hw4 hB3.size
      refine hK _ _ ?_; clear hK
      (try simp only [Act.put, List.setIfInBounds_toArray, List.set_cons_zero, List.set_cons_succ])
      refine wpList_yield_w rfl _ (exec_move _ rfl) ?_
      simp only [Act.put, Act.eval, Array.getD_eq_getD_getElem?, List.getElem?_toArray, List.getElem?_cons_succ, List.getElem?_cons_zero, Option.getD_some, List.setIfInBounds_toArray, List.set_cons_zero, List.set_cons_succ]
      refine wpList_plain_w rfl fun K hK => ?_; go_simp
      with_reducible refine (CB _ hB4).out.mono ?_
      rintro e w5 ⟨rfl, hw5⟩
      have hB5 := bthen hB4 hw5 hB4.size
      refine hK _ _ ?_; clear hK
      (try simp only [Act.put, List.setIfInBounds_toArray, List.set_cons_zero, List.set_cons_succ])
      refine wpList_yield_w rfl _ (exec_neq_to ab25 _ _ rfl fa fb rfl rfl LA.out LB.out hD.out) ?_
      simp only [Act.put, List.setIfInBounds_toArray, List.set_cons_zero, List.set_cons_succ]
      refine wpList_yield rfl ?vp13_11 ?yp13_11 ?_
      case yp13_11 => go_simp; try with_reducible rfl
      simp only [Act.put, List.setIfInBounds_toArray, List.set_cons_zero, List.set_cons_succ]
      refine wpList_nil ?_
      have b9 := (((((bz.below hw1 bz.lt).below hw2 (bz.below hw1 bz.lt).lt).below hw3 ((bz.below hw1 bz.lt).below hw2 (bz.below hw1 bz.lt).lt).lt)).below (hw4.trans (hw5.mono hw4.size)) (((bz.below hw1 bz.lt).below hw2 (bz.below hw1 bz.lt).lt).below hw3 ((bz.below hw1 bz.lt).below hw2 (bz.below hw1 bz.lt).lt).lt).lt)
      have hb9 := hB5
      clear hB1 hB2 hB3 hB4 hB5 hw1 hw2 hw3 hw4 hw5 bz hw0 CS CF CA CB
      go_upto_region 2 with fail
      refine wp_region_lit ?_
      refine wpList_yield rfl _ (exec_build _ rfl #[.slice none 0 0, .slice none 0 0] (by kernel_rfl)) ?_
      simp only [Act.put, List.setIfInBounds_toArray, List.set_cons_zero, List.set_cons_succ]
      refine wpList_store_at at124.i rfl (.tmp 4) (.tmp 20) rfl w.heap.size 0 124 [.slice none 0 0, .slice none 0 0] [.slice none 0 0, .slice none 0 0] rfl rfl b9 rfl (Nat.le_refl 2) (by simp [Value.oneCell']) ?_
      intro w12 hb2 hg2 hs2
      (try simp only [Act.put, List.setIfInBounds_toArray, List.set_cons_zero, List.set_cons_succ])
      refine wpList_yield rfl _ (exec_assign _ rfl) ?_
      simp only [Act.put, Act.eval, Array.getD_eq_getD_getElem?, List.getElem?_toArray, List.getElem?_cons_succ, List.getElem?_cons_zero, Option.getD_some, List.setIfInBounds_toArray, List.set_cons_zero, List.set_cons_succ]
      refine wpList_nil ?_
      go_wp2_with fail
      (try simp only [Exit.inBlock, Exit.then])
      rw [splice_all _ _ (by rfl)] at hb2
      refine bodyPost_ret (ret_cell_tmp rfl at124 _ _ w.heap.size 124 _ rfl hb2 rfl) rfl ?_
      exact ⟨none, 0, 0, none, 0, 0, rfl, hnil _, hnil _, hb9.grown hg2 hb9.size (by intro k hk; cases hk; omega)⟩
end Go.Proofs.Ytehbahobkgoapaa
