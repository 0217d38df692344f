/- Contracts of sha's states: New, Write, Len, Clone. -/
import Derived.Test.YtehbahobkgoapaaWj
import Derived.Test.YtehbahobkgoapaaWi
import Derived.Test.YtehbahobkgoapaaRr
import Derived.Test.YtehbahobkgoapaaKic
namespace Go.Proofs.Ytehbahobkgoapaa
open Go Go.RowKit
set_option linter.unusedSimpArgs false
set_option linter.unusedVariables false

def zb0 (n : Nat) : List UInt8 := List.replicate n 0
theorem stb_nil (b : List UInt8) (h : b.length = 64) : StB [] b := ⟨h, rfl⟩
set_option maxRecDepth 100000 in
set_option maxHeartbeats 1000000 in
theorem new_state (w : World) : Calls Try.prog 83 #[] w fun e w' => ∃ g, e = .returned (.pointer (some ⟨g, 0, none⟩)) ∧ w.heap.size ≤ g ∧ St w' g [] ∧ Below w.heap.size w w' := by
  have C := fun u => Lib.hid (begin_any u)
  unfold arrW at C
  go_enter Try.func83, Try.ntmps83
  go_upto_region 1 with fail
  refine wp_region_lit ?_
  refine wpList_plain rfl fun K hK => ?_; go_simp
  with_reducible refine (C _).out.mono ?_
  rintro e w1 ⟨rfl, hw1⟩
  refine hK _ _ ?_; clear hK
  (try simp only [Act.put, List.setIfInBounds_toArray, List.set_cons_zero, List.set_cons_succ])
  refine wpList_yield rfl _ (exec_build _ rfl (stC shaH (List.replicate 64 0) 0 0).toArray (by kernel_rfl)) ?_
  simp only [Act.put, List.setIfInBounds_toArray, List.set_cons_zero, List.set_cons_succ]
  refine wpList_plain rfl fun K hK => ?_; go_simp
  refine hK _ _ ?_; clear hK
  (try simp only [Act.put, List.setIfInBounds_toArray, List.set_cons_zero, List.set_cons_succ])
  refine wpList_yield rfl _ (exec_assign _ rfl) ?_
  simp only [Act.put, List.setIfInBounds_toArray, List.set_cons_zero, List.set_cons_succ]
  refine wpList_nil ?_
  go_wp2_with fail
  go_ret
  refine ⟨w1.heap.size, rfl, hw1.size, ⟨List.replicate 64 0, stb_nil _ (by simp), ?_⟩, hw1.trans (((Below.refl _ _).alloc (Nat.le_refl _) _).mono hw1.size)⟩
  exact Blk.new w1 128 (stC shaH (List.replicate 64 0) 0 0)

set_option maxRecDepth 100000 in
set_option maxHeartbeats 1000000 in
theorem none_no (g : Nat) (w : World) (hc : w.cell? ⟨g, 0, none⟩ = some (.bool true)) : Calls Try.prog 142 #[.pointer (some ⟨g, 0, none⟩)] w fun e w' => e = .returned (.bool false) ∧ w = w' := by
  go_enter Try.func142, Try.ntmps142
  go_wp2
  go_ret
  exact ⟨rfl, rfl⟩
set_option maxRecDepth 100000 in
set_option maxHeartbeats 1000000 in
theorem none_made (g : Nat) (w : World) (hc : w.cell? ⟨g, 0, none⟩ = some (.bool false)) : Calls Try.prog 142 #[.pointer (some ⟨g, 0, none⟩)] w fun e w' => e = .returned (.bool true) ∧ w = w' := by
  go_enter Try.func142, Try.ntmps142
  go_wp2
  go_ret
  exact ⟨rfl, rfl⟩
set_option maxRecDepth 100000 in
set_option maxHeartbeats 1000000 in
theorem none_nil (w : World) : Calls Try.prog 142 #[.pointer none] w fun e w' => e = .returned (.bool true) ∧ w = w' := by
  go_enter Try.func142, Try.ntmps142
  go_wp2
  go_ret
  exact ⟨rfl, rfl⟩

theorem exec_load3 {w : World} {a : Act} {o : Oper} (x : Operand) (ho : o.op = .load 3 x) (ad : Addr) (v : Value) (hx : a.eval x = .pointer (some ad)) (hc : w.cell? ad = some v) : (execOp a.eval o).run Try.prog w = .ok (.value v) w := by
  obtain ⟨d, hu, hd⟩ := w3
  exact exec_load_one hu hd x ho ad v hx hc
theorem Blk.at0 {w : World} {g : Nat} {h : List Nat} {b : List UInt8} {n all : Nat} (hb : Blk w g 128 (stC h b n all)) : w.cell? ⟨g, 0, none⟩ = some (.bool true) := by rw [hb.cell]; rfl
theorem Blk.atN {w : World} {g : Nat} {h : List Nat} {b : List UInt8} {n all : Nat} (hb : Blk w g 128 (stC h b n all)) (hl : h.length = 8) (hb' : b.length = 64) : w.cell? ⟨g, 73, none⟩ = some (.int .i64 (n : Int)) := by rw [hb.cell]; exact stC_n hl hb'
theorem Blk.atA {w : World} {g : Nat} {h : List Nat} {b : List UInt8} {n all : Nat} (hb : Blk w g 128 (stC h b n all)) (hl : h.length = 8) (hb' : b.length = 64) : w.cell? ⟨g, 74, none⟩ = some (.int .i64 (all : Int)) := by rw [hb.cell]; exact stC_all hl hb'

set_option maxRecDepth 100000 in
set_option maxHeartbeats 1000000 in
theorem len_state (g : Nat) (m : List UInt8) (w : World) (h : St w g m) : Calls Try.prog 86 #[.pointer (some ⟨g, 0, none⟩)] w fun e w' => e = .returned (.int .i64 (m.length : Int)) ∧ w = w' := by
  obtain ⟨b, hs, hb⟩ := h
  have C := Lib.hid (none_no g w hb.at0)
  have hA := Lib.hid (hb.atA (hOf_length m) hs.1)
  clear hb
  go_enter Try.func86, Try.ntmps86
  go_wp2_with (first
    | (go_at_call 142; with_reducible refine C.out.mono ?_; rintro e w1 ⟨rfl, rfl⟩)
    | ((with_reducible refine at_dst 8 ?_); refine wpList_yield rfl _ (exec_load3 _ rfl _ _ rfl hA.out) ?_))
  go_ret
  exact ⟨rfl, rfl⟩

def zst : List Value := (stC (zw 8) (zb 64) 0 0).set 0 (.bool false)
theorem zst_length : zst.length = 75 := by unfold zst; rw [List.length_set]; exact stC_length rfl rfl
theorem zero128 : Try.zeroCells128 = zst.toArray := by kernel_rfl
set_option maxRecDepth 100000 in
set_option maxHeartbeats 1000000 in
theorem clone_state (g : Nat) (m : List UInt8) (w : World) (h : St w g m) : Calls Try.prog 87 #[.pointer (some ⟨g, 0, none⟩)] w fun e w' => ∃ g', e = .returned (.pointer (some ⟨g', 0, none⟩)) ∧ w.heap.size ≤ g' ∧ St w' g' m ∧ Below w.heap.size w w' := by
  obtain ⟨b, hs, hb⟩ := h
  have C := Lib.hid (none_no g w hb.at0)
  have HS := Lib.hid hs
  have HHL := Lib.hid (hOf_length m)
  have hcl : Hid ((stC (hOf m) b (m.length % 64) m.length).length = 75) := Lib.hid (stC_length HHL.out hs.1)
  have h1 := stC_one (hOf m) b (m.length % 64) m.length
  have hfin : ∀ (w' : World) (g' : Nat), Blk w' g' 128 (stC (hOf m) b (m.length % 64) m.length) → St w' g' m := fun w' g' h => ⟨b, hs, h⟩
  have HF := Lib.hid hfin
  clear hfin hs
  generalize stC (hOf m) b (m.length % 64) m.length = cs at *
  have hz0 : Blk (w.alloc (.cells Try.zeroCells128 128)) w.heap.size 128 zst := by rw [zero128]; exact Blk.new _ _ _
  have hw0 : Below w.heap.size w (w.alloc (.cells Try.zeroCells128 128)) := (Below.refl _ _).alloc (Nat.le_refl _) _
  go_enter Try.func87, Try.ntmps87
  go_upto_region 3 with (first
    | (go_at_call 142; with_reducible refine C.out.mono ?_; rintro e w1 ⟨rfl, rfl⟩))
  refine wp_region_lit ?_
  refine wpList_yield rfl _ (exec_move _ rfl) ?_
  simp only [Act.put, List.setIfInBounds_toArray, List.set_cons_zero, List.set_cons_succ]
  refine wpList_yield rfl _ (exec_nilck _ rfl _ rfl) ?_
  simp only [Act.put, List.setIfInBounds_toArray, List.set_cons_zero, List.set_cons_succ]
  refine wpList_yield rfl _ (exec_load_agg at128 (.tmp 7) rfl g 128 cs rfl hb hcl.out) ?_
  simp only [Act.put, List.setIfInBounds_toArray, List.set_cons_zero, List.set_cons_succ]
  refine wpList_plain rfl fun K hK => ?_; go_simp
  refine hK _ _ ?_; clear hK
  (try simp only [Act.put, List.setIfInBounds_toArray, List.set_cons_zero, List.set_cons_succ])
  refine wpList_store_at at128.i rfl (.tmp 3) (.tmp 8) rfl w.heap.size 0 128 zst cs rfl rfl hz0 hcl.out (by rw [zst_length]; exact Nat.le_refl 75) h1 ?_
  intro w2 hb2 hg2 hs2
  (try simp only [Act.put, List.setIfInBounds_toArray, List.set_cons_zero, List.set_cons_succ])
  refine wpList_nil ?_
  rw [splice_all _ _ (by rw [zst_length, hcl.out])] at hb2
  go_wp2_with fail
  go_ret
  exact ⟨w.heap.size, rfl, Nat.le_refl _, HF.out _ _ hb2, hw0.grown hg2 hw0.size (by intro k hk; cases hk; omega)⟩

theorem wp_copy_mid {P : Program} {T E S : TypeId} {w : World} {o : Oper} {a : Act} {Q : Exit → Act → World → Prop} {K : Act → World → Prop} (B : BT P T E S) (d s : Operand) (ho : o.op = .call { callee := .builtin .copy, args := #[d, s], argTypes := #[T, T] })
    (g off dLen dCap : Nat) (ad : Addr) (n sCap : Nat) (hd : a.eval d = .slice (some ⟨g, off, none⟩) dLen dCap) (hs : a.eval s = .slice (some ad) n sCap)
    (t : TypeId) (cs : List Value) (l : List UInt8) (hg : Blk w g t cs) (hr : Rd w (some ad) (bvs l)) (hn : l.length = n) (hfit : off + dLen ≤ cs.length) (k : Nat) (hk : Nat.min n dLen = k)
    (h : ∀ w', Blk w' g t (splice cs off (bvs (l.take dLen))) → w.grownBy w' (some g) → w'.heap.size = w.heap.size → K (a.put o.dst (.int .i64 (k : Int))) w') :
    o.wp P a w K Q := by
  obtain ⟨i, hi, hz, hsz, hb⟩ := info_parts B.i
  subst hn
  subst hk
  have hlen : (bvs (l.take dLen)).length = Nat.min l.length dLen := by
    show _ = min l.length dLen
    simp [bvs]; omega
  have hsrc : ∀ j u, (bvs (l.take dLen))[j]? = some u → w.cell? (ad.add j) = some u := by
    intro j u hu
    by_cases h0 : 0 < (bvs l).length
    · obtain ⟨ad', e, hc⟩ := hr h0
      cases e
      apply hc
      have hj : j < (l.take dLen).length := by
        have := (List.getElem?_eq_some_iff.1 hu).1
        rwa [bvs_length] at this
      rw [bvs_get, List.getElem?_take_of_lt (by simp at hj; omega)] at hu
      rw [bvs_get, hu]
    · have : l = [] := List.eq_nil_of_length_eq_zero (by simpa [bvs] using h0)
      subst this
      simp [bvs] at hu
  have hfl : off + (bvs (l.take dLen)).length ≤ cs.length := by
    rw [hlen]; have : Nat.min l.length dLen ≤ dLen := Nat.min_le_right _ _; omega
  have hrun := run_copy_row (P := P) w T T o.type E g off dLen dCap ad l.length sCap cs.toArray t (bvs (l.take dLen)) B.t (by rw [hi]; simp [hsz]) hg hlen hsrc (by simpa using hfl) (bvs_one _)
  unfold Oper.wp
  simp [execOp, ho, resolve, invoke, builtin, hd, hs, hrun, Result.andThen]
  have := h _ (hg.row (splice cs off (bvs (l.take dLen)))) (grownBy_setRow w g _) (by simp)
  rw [← hlen] at this
  show K (a.put o.dst _) _
  simpa [goInt, splice, bvs_length] using this
def Any (_ : World) : Prop := True
theorem any_at (w : World) : Any w := trivial
section
variable {P : Program} {ops : Array Oper} {Q : Exit → Act → World → Prop} {S' : World → Prop}
theorem wpF_turn {F F' : Nat → Bool} : ∀ (fuel : Nat) (listed : Array Bool) (a : Act) (w : World), wpF P ops Q S' F' fuel listed a w → wpF P ops Q Any F fuel listed a w
  | 0, _, _, _, h => h
  | fuel + 1, _, _, _, h => ⟨h.1, fun i hi => wpOp_mono (fun a' w' h' => ⟨fun _ => trivial, wpF_turn fuel _ a' w' h'.2⟩) (h.2 i hi)⟩
/-- From here on a condition of its own. -/
theorem rg_turn {F pl : List Nat} {g : Nat} {dn : List Nat} {rest : List (Nat × Oper)} {a : Act} {w : World} (S' : World → Prop) (F' : List Nat) (hp : planned ops F' pl dn (rest.map (·.1)) = true)
    (h : wpT P ops Q S' F' pl g dn rest a w) : wpT P ops Q Any F pl g dn rest a w := by
  intro hr _ hQ
  exact wpF_turn _ _ _ _ (h hr hp hQ)
end
theorem wp_pure {P : Program} {w : World} {o : Oper} {a : Act} {Q : Exit → Act → World → Prop} {K : Act → World → Prop} {v : Value} (hr : (execOp a.eval o).run P w = .ok (.value v) w) (h : K (a.put o.dst v) w) : o.wp P a w K Q := by
  unfold Oper.wp
  rw [hr]
  exact h
theorem exec_len24 {w : World} {a : Act} {o : Oper} (x : Operand) (ho : o.op = .call { callee := .builtin .len, args := #[x], argTypes := #[24] }) (A : Option Addr) (n c : Nat) (hx : a.eval x = .slice A n c) :
    (execOp a.eval o).run Try.prog w = .ok (.value (.int .i64 (n : Int))) w := by
  unfold execOp
  simp only [ho, resolve, invoke, builtin, Sem.run_bind, Sem.run_pure, Result.andThen_ok, List.map_toArray, List.map_cons, List.map_nil, hx]
  go_simp

/-- While bytes are written: d is written, r is left. -/
def WrS (g M : Nat) (m x : List UInt8) (w : World) (v : Value) (wr : World) : Prop :=
  ∃ (d r b' : List UInt8) (A' : Option Addr) (n' c' : Nat), Hid (d ++ r = x) ∧ v = .slice A' n' c' ∧ r.length = n' ∧ (0 < n' → Lft (· = g) wr A' n' c' r) ∧ StB (m ++ d) b' ∧ Blk wr g 128 (stC (hOf (m ++ d)) b' ((m ++ d).length % 64) M) ∧ Fr (· = g) w wr
theorem rd_lft {w0 w : World} {A : Option Addr} {n c g : Nat} {x : List UInt8} (hr : Rd w0 A (bvs x)) (hl : x.length = n) (hcap : n ≤ c) (hmax : c ≤ maxLen) (h0 : 0 < n) (hb : Below w0.heap.size w0 w) (hg : w0.heap.size ≤ g) : Lft (· = g) w A n c x := by
  refine ⟨hl, hcap, hmax, hr.below hb, ?_⟩
  intro ad had e
  obtain ⟨ad', h1, h2⟩ := hr.at_ (k := 0) (by rw [bvs_length]; omega)
  rw [had] at h1
  cases h1
  have h3 := World.block_lt_of_cell? _ _ h2
  have h4 : (ad.add 0).block = ad.block := by unfold Addr.add; split <;> rfl
  rw [h4] at h3
  have h5 : ad.block = g := e
  omega
set_option maxRecDepth 100000 in
set_option maxHeartbeats 4000000 in
theorem write_state (g : Nat) (m : List UInt8) (A : Option Addr) (n c : Nat) (x : List UInt8) (w : World) (h : St w g m) (hl : x.length = n) (hx : 0 < n → Lft (· = g) w A n c x) (hb : m.length + n ≤ 4611686018427387904) :
    Calls Try.prog 84 #[.pointer (some ⟨g, 0, none⟩), .slice A n c] w fun e w' => e = .returned (.int .i64 (n : Int)) ∧ St w' g (m ++ x) ∧ Fr (· = g) w w' := by
  obtain ⟨b, hs, hblk⟩ := h
  have C := Lib.hid (none_no g w hblk.at0)
  have HHL := hOf_length m
  have hA := Lib.hid (hblk.atA HHL hs.1)
  have hset := hblk.set_ 74 (.int .i64 ((m.length + n : Nat) : Int))
  rw [stC_set_all HHL hs.1] at hset
  have hlen := Lib.hid (stC_length HHL hs.1 (n := m.length % 64) (all := m.length))
  have HX := Lib.hid hl
  have HM : Hid ((m ++ x).length = m.length + n) := Lib.hid (by rw [List.length_append, hl])
  have HS := Lib.hid hs
  have hfr : Fr (· = g) w (w.setCell ⟨g, 74, none⟩ (.int .i64 ((m.length + n : Nat) : Int))) := Fr.setCell (p := ⟨g, 74, none⟩) (Fr.refl (· = g) w) (.inl rfl) _
  obtain ⟨M, hMd⟩ : ∃ M, m.length + n = M := ⟨_, rfl⟩
  rw [hMd] at hset HM hb hfr
  have hM2 : (m.length : Int) + (n : Int) = (M : Int) := by omega
  have HM2 := Lib.hid hM2
  clear hMd hM2 hs hl
  go_enter Try.func84, Try.ntmps84
  go_upto_region 3 with (first
    | (go_at_call 142; with_reducible refine C.out.mono ?_; rintro e w1 ⟨rfl, rfl⟩))
  refine wp_region_lit ?_
  refine wpList_yield rfl _ (exec_move _ rfl) ?_
  simp only [Act.put, List.setIfInBounds_toArray, List.set_cons_zero, List.set_cons_succ]
  refine wpList_yield rfl _ (exec_nilck _ rfl _ rfl) ?_
  simp only [Act.put, List.setIfInBounds_toArray, List.set_cons_zero, List.set_cons_succ]
  refine wpList_yield rfl _ (exec_f4 _ rfl g rfl) ?_
  simp only [Act.put, List.setIfInBounds_toArray, List.set_cons_zero, List.set_cons_succ]
  refine wpList_yield rfl _ (exec_load3 _ rfl _ _ rfl hA.out) ?_
  simp only [Act.put, List.setIfInBounds_toArray, List.set_cons_zero, List.set_cons_succ]
  refine wpList_yield rfl _ (exec_move _ rfl) ?_
  simp only [Act.put, List.setIfInBounds_toArray, List.set_cons_zero, List.set_cons_succ]
  refine wpList_yield rfl _ (exec_len24 _ rfl A n c rfl) ?_
  simp only [Act.put, List.setIfInBounds_toArray, List.set_cons_zero, List.set_cons_succ]
  refine wpList_yield rfl _ (exec_iadd _ _ rfl _ _ ((M : Nat) : Int) rfl rfl HM2.out (by omega)) ?_
  simp only [Act.put, List.setIfInBounds_toArray, List.set_cons_zero, List.set_cons_succ]
  refine wpList_yield rfl _ (exec_nilck _ rfl _ rfl) ?_
  simp only [Act.put, List.setIfInBounds_toArray, List.set_cons_zero, List.set_cons_succ]
  refine wpList_yield rfl _ (exec_f4 _ rfl g rfl) ?_
  simp only [Act.put, List.setIfInBounds_toArray, List.set_cons_zero, List.set_cons_succ]
  refine wpList_store_one rfl one3 (.tmp 17) (.tmp 15) rfl g 74 128 _ (.int .i64 ((M : Nat) : Int)) rfl rfl rfl hblk (by rw [hlen.out]; decide) ?_
  (try simp only [Act.put, List.setIfInBounds_toArray, List.set_cons_zero, List.set_cons_succ])
  refine wpList_nil ?_
  clear hblk hA hlen
  generalize World.setCell w _ _ = w1 at *
  go_wp2_with fail
  go_loopw [5] (fun v wr => WrS g M m x w v wr) (fun v _ => sliceLen v)
  case atStart => exact ⟨[], x, b, A, n, c, rfl, rfl, HX.out, fun h0 => (hx h0).fr hfr (fun k e => e), by rw [List.append_nil]; exact HS.out, by rw [List.append_nil]; exact hset, hfr⟩
  case round =>
    clear hset hfr
    obtain ⟨d, r, b', A', n', c', hdr, rfl, hL, hr, hsb, hblk, hfr⟩ := hrel
    obtain ⟨N, hN⟩ : ∃ N, (m ++ d).length % 64 = N := ⟨_, rfl⟩
    have hN64 : N < 64 := by omega
    have HN := Lib.hid hN
    rw [hN] at hblk
    clear hN
    have HHD := hOf_length (m ++ d)
    by_cases h0 : 0 < n'
    · have hr := hr h0
      have hz0 : (0 : Int) < (n' : Int) := by omega
      obtain ⟨ad, rfl⟩ : ∃ ad, A' = some ad := by
        obtain ⟨ad, h, _⟩ := hr.rd.at_ (k := 0) (by rw [bvs_length]; omega)
        exact ⟨ad, h⟩
      have hcn := Lib.hid (hblk.atN HHD hsb.1)
      obtain ⟨k, hk⟩ : ∃ k, Nat.min n' (64 - N) = k := ⟨_, rfl⟩
      have hk' : min n' (64 - N) = k := hk
      have hkn : k ≤ n' := by omega
      have hkN : N + k ≤ 64 := by omega
      have hk0 : 0 < k := by omega
      have hkc : N + k < 64 → k = n' := by omega
      have HK := Lib.hid hk
      clear hk
      obtain ⟨y, hy⟩ : ∃ y, y = r.take (64 - N) := ⟨_, rfl⟩
      have hyk : y = r.take k := by
        rw [hy]
        by_cases hc : n' ≤ 64 - N
        · rw [List.take_of_length_le (by omega), List.take_of_length_le (by omega)]
        · rw [show 64 - N = k by omega]
      have hyl : y.length = k := by rw [hyk, List.length_take]; omega
      have hcut := hr.cut k hkn
      have hdr' : Hid ((d ++ y) ++ r.drop k = x) := Lib.hid (by rw [List.append_assoc, hyk, List.take_append_drop]; exact hdr.out)
      have hput : splice (stC (hOf (m ++ d)) b' N M) (9 + N) (bvs y) = stC (hOf (m ++ d)) (splice b' N y) N M := stC_put_b HHD hsb.1 N y (by omega)
      have hbl : (splice b' N y).length = 64 := by rw [splice_bytes_length _ _ _ (by rw [hsb.1]; omega)]; exact hsb.1
      have hset : (stC (hOf (m ++ d)) (splice b' N y) N M).set 73 (.int .i64 ((N + k : Nat) : Int)) = stC (hOf (m ++ d)) (splice b' N y) (N + k) M := stC_set_n HHD hbl (N + k)
      have HPUT := Lib.hid hput
      have HSET := Lib.hid hset
      have HY := Lib.hid hy
      have HYL := Lib.hid hyl
      have HBL := Lib.hid hbl
      have hfew := Lib.hid (fun (hlt : N + k < 64) => stb_few hsb y (by rw [HN.out, hyl]; exact hlt))
      have hful := Lib.hid (fun (hlt : N + k = 64) => stb_full hsb y (by rw [HN.out, hyl]; exact hlt))
      rw [HN.out] at hfew hful
      have hcl := Lib.hid (stC_length HHD hsb.1 (n := N) (all := M))
      have hcl2 := Lib.hid (stC_length HHD hbl (n := N) (all := M))
      clear hy hyk hyl hput hset hk' hL hbl
      go_upto_region 6 with fail
      refine rg_begin (fun (W : World) => World.cell? W ⟨g, 73, none⟩ = some (Value.int IntKind.i64 (N : Int))) [] [9] [0, 1, 2, 3, 4, 5, 6, 7, 8, 9, 10] 0 mixed (by kernel_rfl) (fun _ _ _ _ e hh => ⟨e.symm.trans hh.1, hh.2⟩) ?_
      simp only [pick, List.map_cons, List.map_nil, List.getD_cons_zero, List.getD_cons_succ]
      have hS : (fun (W : World) => World.cell? W ⟨g, 73, none⟩ = some (Value.int IntKind.i64 (N : Int))) _ := hcn.out
      refine rg_take (v := ?v1_0) rfl rfl hS ?y1_0 ?_
      case y1_0 => intro W hW; (try subst hW); go_simp; try with_reducible rfl
      simp only [Act.put, List.setIfInBounds_toArray, List.set_cons_zero, List.set_cons_succ]
      refine rg_take rfl rfl hS (fun W hW => exec_nilck _ rfl _ rfl) ?_
      simp only [Act.put, List.setIfInBounds_toArray, List.set_cons_zero, List.set_cons_succ]
      refine rg_take rfl rfl hS (fun W hW => exec_f2 _ rfl g rfl) ?_
      simp only [Act.put, List.setIfInBounds_toArray, List.set_cons_zero, List.set_cons_succ]
      refine rg_take (v := ?v1_3) rfl rfl hS ?y1_3 ?_
      case y1_3 => intro W hW; (try subst hW); go_simp; try with_reducible rfl
      simp only [Act.put, List.setIfInBounds_toArray, List.set_cons_zero, List.set_cons_succ]
      refine rg_take rfl rfl hS (fun W hW => exec_nilck _ rfl _ rfl) ?_
      simp only [Act.put, List.setIfInBounds_toArray, List.set_cons_zero, List.set_cons_succ]
      refine rg_take rfl rfl hS (fun W hW => exec_f3 _ rfl g rfl) ?_
      simp only [Act.put, List.setIfInBounds_toArray, List.set_cons_zero, List.set_cons_succ]
      refine rg_take rfl rfl hS (fun W hW => exec_load3 _ rfl _ _ rfl hW) ?_
      simp only [Act.put, List.setIfInBounds_toArray, List.set_cons_zero, List.set_cons_succ]
      refine rg_take rfl rfl hS (fun W hW => exec_arr_from ia97 _ _ rfl g 9 N _ rfl rfl hN64) ?_
      simp only [Act.put, List.setIfInBounds_toArray, List.set_cons_zero, List.set_cons_succ]
      refine rg_take (v := ?v1_8) rfl rfl hS ?y1_8 ?_
      case y1_8 => intro W hW; (try subst hW); go_simp; try with_reducible rfl
      simp only [Act.put, List.setIfInBounds_toArray, List.set_cons_zero, List.set_cons_succ]
      refine rg_one rfl rfl ?_; intro K hK
      refine wp_copy_mid bt (.tmp 29) (.tmp 30) rfl g (9 + N) (64 - N) (64 - N) ad n' c' rfl rfl 128 _ r hblk.drew hr.rd.drew hr.len (by rw [hcl.out]; omega) k HK.out ?_
      intro w2 hb2 hg2 hs2
      rw [← HY.out, HPUT.out] at hb2
      have hS1 := hb2.atN HHD HBL.out
      refine hK _ _ (fun _ => hS1) ?_; clear hK
      simp only [Act.put, List.setIfInBounds_toArray, List.set_cons_zero, List.set_cons_succ]
      refine rg_take (v := ?v1_10) rfl rfl hS1 ?y1_10 ?_
      case y1_10 => intro W hW; (try subst hW); go_simp; try with_reducible rfl
      simp only [Act.put, List.setIfInBounds_toArray, List.set_cons_zero, List.set_cons_succ]
      refine rg_done (by kernel_rfl) ?_
      have hfr2 : Fr (· = g) w w2 := hfr.drew.grown hg2 (by intro k hk; cases hk; exact .inl rfl)
      have hr2 : Fr (· = g) wr w2 := (Fr.refl (· = g) wr).drew.grown hg2 (by intro k hk; cases hk; exact .inl rfl)
      have hc2 := Lib.hid (hb2.atN HHD HBL.out)
      clear hg2 hs2 hblk hfr hcn
      go_upto_region 7 with fail
      refine wp_region_lit ?_
      refine wpList_yield rfl _ (exec_move _ rfl) ?_
      simp only [Act.put, List.setIfInBounds_toArray, List.set_cons_zero, List.set_cons_succ]
      refine wpList_yield rfl _ (exec_move _ rfl) ?_
      simp only [Act.put, List.setIfInBounds_toArray, List.set_cons_zero, List.set_cons_succ]
      refine wpList_yield rfl _ (exec_slice_from st24 _ _ rfl (some ad) n' c' k .i64 rfl rfl hkn) ?_
      simp only [Act.put, List.setIfInBounds_toArray, List.set_cons_zero, List.set_cons_succ]
      refine wpList_yield rfl _ (exec_assign _ rfl) ?_
      simp only [Act.put, List.setIfInBounds_toArray, List.set_cons_zero, List.set_cons_succ]
      refine wpList_nil ?_
      go_upto_region 8 with fail
      have hNk : (N : Int) + (k : Int) = ((N + k : Nat) : Int) := by omega
      have HNk := Lib.hid hNk
      obtain ⟨N2, hN2⟩ : ∃ N2, N + k = N2 := ⟨_, rfl⟩
      have HN2 := Lib.hid hN2
      rw [hN2] at hNk HNk hkN hkc HSET hfew hful
      clear hN2 hNk
      refine wp_region_lit ?_
      refine wpList_yield rfl _ (exec_move _ rfl) ?_
      simp only [Act.put, List.setIfInBounds_toArray, List.set_cons_zero, List.set_cons_succ]
      refine wpList_yield rfl _ (exec_nilck _ rfl _ rfl) ?_
      simp only [Act.put, List.setIfInBounds_toArray, List.set_cons_zero, List.set_cons_succ]
      refine wpList_yield rfl _ (exec_f3 _ rfl g rfl) ?_
      simp only [Act.put, List.setIfInBounds_toArray, List.set_cons_zero, List.set_cons_succ]
      refine wpList_yield rfl _ (exec_load3 _ rfl _ _ rfl hc2.out) ?_
      simp only [Act.put, List.setIfInBounds_toArray, List.set_cons_zero, List.set_cons_succ]
      refine wpList_yield rfl _ (exec_move _ rfl) ?_
      simp only [Act.put, List.setIfInBounds_toArray, List.set_cons_zero, List.set_cons_succ]
      refine wpList_yield rfl _ (exec_iadd _ _ rfl _ _ ((N2 : Nat) : Int) rfl rfl HNk.out (by omega)) ?_
      simp only [Act.put, List.setIfInBounds_toArray, List.set_cons_zero, List.set_cons_succ]
      refine wpList_yield rfl _ (exec_nilck _ rfl _ rfl) ?_
      simp only [Act.put, List.setIfInBounds_toArray, List.set_cons_zero, List.set_cons_succ]
      refine wpList_yield rfl _ (exec_f3 _ rfl g rfl) ?_
      simp only [Act.put, List.setIfInBounds_toArray, List.set_cons_zero, List.set_cons_succ]
      refine wpList_store_one rfl one3 (.tmp 42) (.tmp 40) rfl g 73 128 _ (.int .i64 ((N2 : Nat) : Int)) rfl rfl rfl hb2 (by rw [hcl2.out]; decide) ?_
      (try simp only [Act.put, List.setIfInBounds_toArray, List.set_cons_zero, List.set_cons_succ])
      refine wpList_nil ?_
      have hb3 := hb2.set_ 73 (.int .i64 ((N2 : Nat) : Int))
      rw [HSET.out] at hb3
      have hfr3 : Fr (· = g) w2 (w2.setCell ⟨g, 73, none⟩ (.int .i64 ((N2 : Nat) : Int))) := Fr.setCell (p := ⟨g, 73, none⟩) (Fr.refl (· = g) w2) (.inl rfl) _
      generalize World.setCell w2 _ _ = w3 at *
      have hfr4 := hfr2.trans hfr3
      have hr4 := hr2.trans hfr3
      have hrest := hcut.fr hr4 (fun k e => e)
      have hc3 := Lib.hid (hb3.atN HHD HBL.out)
      clear hfr2 hfr3 hr2 hb2 hcut hr hc2 hcl hcl2 HSET HPUT
      by_cases hful' : N2 = 64
      · obtain ⟨f1, f2, f3, f4⟩ := hful.out hful'
        subst hful'
        have C2 := fun u => Lib.hid (step_any (hOf (m ++ d)) (splice b' N y) u HHD (hOf_lt _) HBL.out)
        rw [← f2] at C2
        have HF2 := Lib.hid f2
        have HH2 := Lib.hid (hOf_length (m ++ d ++ y))
        have hcl3 := Lib.hid (stC_length HHD HBL.out (n := 64) (all := M))
        have hcl4 := Lib.hid (stC_length HH2.out HBL.out (n := 64) (all := M))
        have hdh : Hid (((stC (hOf (m ++ d)) (splice b' N y) 64 M).drop 1).take 8 = wvs (hOf (m ++ d))) := Lib.hid (stC_h HHD)
        have hdb : Hid (((stC (hOf (m ++ d)) (splice b' N y) 64 M).drop 9).take 64 = bvs (splice b' N y)) := Lib.hid (stC_b HHD HBL.out)
        have hph : Hid (splice (stC (hOf (m ++ d)) (splice b' N y) 64 M) 1 (wvs (hOf (m ++ d ++ y))) = stC (hOf (m ++ d ++ y)) (splice b' N y) 64 M) := Lib.hid (stC_put_h HHD _ HH2.out)
        have hp0 : Hid ((stC (hOf (m ++ d ++ y)) (splice b' N y) 64 M).set 73 (.int .i64 ((0 : Nat) : Int)) = stC (hOf (m ++ d ++ y)) (splice b' N y) 0 M) := Lib.hid (stC_set_n HH2.out HBL.out 0)
        have HSB := Lib.hid (f1 _ HBL.out)
        rw [HYL.out] at *
        unfold arrW arr8 at C2
        go_upto_region 10 with (first
          | ((with_reducible refine at_dst 46 ?_); refine wpList_yield rfl _ (exec_load3 _ rfl _ _ rfl hc3.out) ?_))
        refine rg_begin (Any) [] [10, 11, 12, 13, 14, 15, 16] [0, 1, 2, 3, 4, 5, 6, 7, 8, 9, 10, 11, 12, 13, 14, 15, 16] 0 mixed (by kernel_rfl) (fun _ _ _ _ e hh => ⟨e.symm.trans hh.1, hh.2⟩) ?_
        simp only [pick, List.map_cons, List.map_nil, List.getD_cons_zero, List.getD_cons_succ]
        have hS0 : (Any) _ := any_at w3.drew
        refine rg_take (v := ?v2_0) rfl rfl hS0 ?y2_0 ?_
        case y2_0 => intro W hW; (try subst hW); go_simp; try with_reducible rfl
        simp only [Act.put, List.setIfInBounds_toArray, List.set_cons_zero, List.set_cons_succ]
        refine rg_take (v := ?v2_1) rfl rfl hS0 ?y2_1 ?_
        case y2_1 => intro W hW; (try subst hW); go_simp; try with_reducible rfl
        simp only [Act.put, List.setIfInBounds_toArray, List.set_cons_zero, List.set_cons_succ]
        refine rg_take (v := ?v2_2) rfl rfl hS0 ?y2_2 ?_
        case y2_2 => intro W hW; (try subst hW); go_simp; try with_reducible rfl
        simp only [Act.put, List.setIfInBounds_toArray, List.set_cons_zero, List.set_cons_succ]
        refine rg_turn (Below w3.heap.size w3) [13, 14, 15, 16] (by kernel_rfl) ?_
        have hS : Below w3.heap.size w3 w3.drew := (Below.refl _ _).drew
        refine rg_take rfl rfl hS (fun W hW => exec_nilck _ rfl _ rfl) ?_
        simp only [Act.put, List.setIfInBounds_toArray, List.set_cons_zero, List.set_cons_succ]
        refine rg_take rfl rfl hS (fun W hW => exec_f1 _ rfl g rfl) ?_
        simp only [Act.put, List.setIfInBounds_toArray, List.set_cons_zero, List.set_cons_succ]
        refine rg_take rfl rfl hS (fun W hW => exec_load_at at96 _ rfl g 1 128 _ (wvs (hOf (m ++ d))) rfl (hb3.below hW hb3.lt) hdh.out (by rw [wvs_length]; exact HHD)) ?_
        simp only [Act.put, List.setIfInBounds_toArray, List.set_cons_zero, List.set_cons_succ]
        refine rg_take (v := ?v2_6) rfl rfl hS ?y2_6 ?_
        case y2_6 => intro W hW; (try subst hW); go_simp; try with_reducible rfl
        simp only [Act.put, List.setIfInBounds_toArray, List.set_cons_zero, List.set_cons_succ]
        refine rg_take rfl rfl hS (fun W hW => exec_nilck _ rfl _ rfl) ?_
        simp only [Act.put, List.setIfInBounds_toArray, List.set_cons_zero, List.set_cons_succ]
        refine rg_take rfl rfl hS (fun W hW => exec_f2 _ rfl g rfl) ?_
        simp only [Act.put, List.setIfInBounds_toArray, List.set_cons_zero, List.set_cons_succ]
        refine rg_take rfl rfl hS (fun W hW => exec_load_at at97 _ rfl g 9 128 _ (bvs (splice b' N y)) rfl (hb3.below hW hb3.lt) hdb.out (by rw [bvs_length]; exact HBL.out)) ?_
        simp only [Act.put, List.setIfInBounds_toArray, List.set_cons_zero, List.set_cons_succ]
        refine rg_one rfl rfl ?_; intro K hK; go_simp
        with_reducible refine (C2 _).out.mono ?_
        rintro e w5 ⟨rfl, hw5⟩
        have hS1 : Below w3.heap.size w3 w5 := Below.trans hS (hw5.mono (Below.size hS))
        refine hK _ _ (fun _ => hS1) ?_; clear hK
        refine rg_one rfl rfl ?_; intro K hK
        refine wp_pure (exec_nilck _ rfl _ rfl) ?_
        refine hK _ _ (fun _ => hS1) ?_; clear hK
        simp only [Act.put, List.setIfInBounds_toArray, List.set_cons_zero, List.set_cons_succ]
        refine rg_one rfl rfl ?_; intro K hK
        refine wp_pure (exec_f1 _ rfl g rfl) ?_
        refine hK _ _ (fun _ => hS1) ?_; clear hK
        simp only [Act.put, List.setIfInBounds_toArray, List.set_cons_zero, List.set_cons_succ]
        refine rg_one rfl rfl ?_; intro K hK
        refine wp_store_at at96.i (.tmp 60) (.tmp 58) rfl g 1 128 _ (wvs (hOf (m ++ d ++ y))) rfl rfl (hb3.below hS1 hb3.lt) (by rw [wvs_length]; exact HH2.out) (by rw [hcl3.out]; decide) (wvs_one _) ?_
        intro w6 hb6 hg6 hs6
        rw [hph.out] at hb6
        refine hK _ _ (fun h => by cases h) ?_; clear hK
        refine rg_one rfl rfl ?_; intro K hK
        refine wp_pure (exec_nilck _ rfl _ rfl) ?_
        refine hK _ _ (fun h => by cases h) ?_; clear hK
        simp only [Act.put, List.setIfInBounds_toArray, List.set_cons_zero, List.set_cons_succ]
        refine rg_one rfl rfl ?_; intro K hK
        refine wp_pure (exec_f3 _ rfl g rfl) ?_
        refine hK _ _ (fun h => by cases h) ?_; clear hK
        simp only [Act.put, List.setIfInBounds_toArray, List.set_cons_zero, List.set_cons_succ]
        refine rg_one rfl rfl ?_; intro K hK
        refine wp_store_one one3 _ _ rfl g 73 128 _ (.int .i64 0) rfl rfl rfl hb6 (by rw [hcl4.out]; decide) ?_
        refine hK _ _ (fun h => by cases h) ?_; clear hK
        refine rg_done (by kernel_rfl) ?_
        have hb7 := hb6.set_ 73 (.int .i64 0)
        rw [show (Value.int .i64 0) = .int .i64 ((0 : Nat) : Int) from rfl, hp0.out] at hb7
        have hfr7 : Fr (· = g) w3 (w6.setCell ⟨g, 73, none⟩ (.int .i64 0)) :=
          ((Fr.of_below hS1).grown hg6 (by intro k hk; cases hk; exact .inl rfl)).trans (Fr.setCell (p := ⟨g, 73, none⟩) (Fr.refl (· = g) w6) (.inl rfl) _)
        go_wp2_with fail
        go_roundw
        case rel =>
          refine ⟨d ++ y, r.drop k, splice b' N y, _, _, _, hdr', rfl, hrest.len, fun _ => hrest.fr hfr7 (fun k e => e), by rw [← List.append_assoc]; exact HSB.out, ?_, hfr4.trans hfr7⟩
          rw [← List.append_assoc, f3]
          exact hb7
        case measure => simp only [sliceLen]; omega
      · obtain ⟨f1, f2, f3⟩ := hfew.out (by omega)
        have hne : ((N2 : Int) == 64) = false := by simp; omega
        rw [HYL.out] at f3
        go_wp2_with (first
          | ((with_reducible refine at_dst 46 ?_); refine wpList_yield rfl _ (exec_load3 _ rfl _ _ rfl hc3.out) ?_))
        go_roundw
        case rel =>
          refine ⟨d ++ y, r.drop k, splice b' N y, _, _, _, hdr', rfl, hrest.len, fun _ => hrest, by rw [← List.append_assoc]; exact f1, ?_, hfr4⟩
          rw [← List.append_assoc, f2, f3, HN2.out]
          exact hb3
        case measure => simp only [sliceLen]; omega
    · obtain rfl : n' = 0 := by omega
      obtain rfl : r = [] := List.eq_nil_of_length_eq_zero hL
      obtain rfl : d = x := by have h := hdr.out; rwa [List.append_nil] at h
      clear hr
      go_upto_region 11 with fail
      refine wp_region_lit ?_
      refine wpList_yield rfl _ (exec_move _ rfl) ?_
      simp only [Act.put, List.setIfInBounds_toArray, List.set_cons_zero, List.set_cons_succ]
      refine wpList_yield rfl _ (exec_len24 _ rfl A n c rfl) ?_
      simp only [Act.put, List.setIfInBounds_toArray, List.set_cons_zero, List.set_cons_succ]
      refine wpList_yield rfl _ (exec_assign _ rfl) ?_
      simp only [Act.put, List.setIfInBounds_toArray, List.set_cons_zero, List.set_cons_succ]
      refine wpList_nil ?_
      go_wp2_with fail
      go_ret
      refine ⟨rfl, ⟨b', hsb, ?_⟩, hfr⟩
      rw [HN.out, HM.out]
      exact hblk
end Go.Proofs.Ytehbahobkgoapaa
