import Derived.Test.YtkjjdgnkelchfaaGreatPCU4
set_option linter.unusedSimpArgs false
set_option linter.unusedVariables false
set_option maxRecDepth 100000
set_option maxHeartbeats 16000000
namespace Go.Proofs.YtkjjdgnkelchfaaGreat
open Go Go.RowKit
theorem stb_nil (b : List UInt8) (h : b.length = 64) : StB [] b := ⟨h, rfl⟩
theorem xr3 (w : World) : Calls Tryz.prog 157 #[] w fun e w' => ∃ g, e = .returned (.pointer (some ⟨g, 0, none⟩)) ∧ w.heap.size ≤ g ∧ St w' g [] ∧ Below w.heap.size w w' := by
  have C := fun u => hZ (xrs u)
  unfold arrW at C; go_enter Tryz.func157, Tryz.ntmps157; go_upto_region 1 with fail; refine Xs ?_; refine wpList_plain rfl fun K hK => ?_; go_simp
  (with_reducible refine (C _).out.mono ?_); rintro e w1 ⟨rfl, hw1⟩; refine Xu ?_; clear hK; refine xaa rfl _ (xcu _ rfl (stC shaH (List.replicate 64 0) 0 0).toArray (by kernel_rfl)) ?_; refine X5 ?_; refine wpList_plain rfl fun K hK => ?_; go_simp
  refine hK _ _ ?_; clear hK; refine Xz ?_; go_wp2_with fail; go_ret; refine ⟨w1.heap.size, rfl, hw1.size, ⟨List.replicate 64 0, stb_nil _ (by simp), ?_⟩, hw1.trans (((Below.refl _ _).alloc (Nat.le_refl _) _).mono hw1.size)⟩; exact Blk.new w1 324 (stC shaH (List.replicate 64 0) 0 0)
theorem xqh (g : Nat) (w : World) (hc : w.cell? ⟨g, 0, none⟩ = some (.bool true)) : Calls Tryz.prog 215 #[.pointer (some ⟨g, 0, none⟩)] w fun e w' => e = .returned (.bool false) ∧ w = w' := by
  go_enter Tryz.func215, Tryz.ntmps215
  go_wp2
  go_ret; exact ⟨rfl, rfl⟩
theorem xcv {w : World} {a : Act} {o : Oper} (x : Operand) (ho : o.op = .load 3 x) (ad : Addr) (v : Value) (hx : a.eval x = .pointer (some ad)) (hc : w.cell? ad = some v) : (execOp a.eval o).run Tryz.prog w = .ok (.value v) w := by
  obtain ⟨d, hu, hd⟩ := w3; exact xb0 hu hd x ho ad v hx hc
theorem Blk.at0 {w : World} {g : Nat} {h : List Nat} {b : List UInt8} {n all : Nat} (hb : Blk w g 324 (stC h b n all)) : w.cell? ⟨g, 0, none⟩ = some (.bool true) := by rw [hb.cell]; rfl
theorem Blk.atN {w : World} {g : Nat} {h : List Nat} {b : List UInt8} {n all : Nat} (hb : Blk w g 324 (stC h b n all)) (hl : h.length = 8) (hb' : b.length = 64) : w.cell? ⟨g, 73, none⟩ = some (.int .i64 (n : Int)) := by rw [hb.cell]; exact stC_n hl hb'
theorem Blk.atA {w : World} {g : Nat} {h : List Nat} {b : List UInt8} {n all : Nat} (hb : Blk w g 324 (stC h b n all)) (hl : h.length = 8) (hb' : b.length = 64) : w.cell? ⟨g, 74, none⟩ = some (.int .i64 (all : Int)) := by rw [hb.cell]; exact stC_all hl hb'
def zst : List Value := (stC (zw 8) (zb 64) 0 0).set 0 (.bool false)
theorem xjo : zst.length = 75 := by unfold zst; rw [List.length_set]; exact xc8 rfl rfl
theorem zero128 : Tryz.zeroCells324 = zst.toArray := by kernel_rfl
theorem xni {P : Program} {T E S : TypeId} {w : World} {o : Oper} {a : Act} {Q : Exit → Act → World → Prop} {K : Act → World → Prop} (B : BT P T E S) (d s : Operand) (ho : o.op = .call { callee := .builtin .copy, args := #[d, s], argTypes := #[T, T] })
    (g off dLen dCap : Nat) (ad : Addr) (n sCap : Nat) (hd : a.eval d = .slice (some ⟨g, off, none⟩) dLen dCap) (hs : a.eval s = .slice (some ad) n sCap)
    (t : TypeId) (cs : List Value) (l : List UInt8) (hg : Blk w g t cs) (hr : Rd w (some ad) (bvs l)) (hn : l.length = n) (hfit : off + dLen ≤ cs.length) (k : Nat) (hk : Nat.min n dLen = k)
    (h : ∀ w', Blk w' g t (splice cs off (bvs (l.take dLen))) → w.grownBy w' (some g) → w'.heap.size = w.heap.size → K (a.put o.dst (.int .i64 (k : Int))) w') :
    o.wp P a w K Q := by
  obtain ⟨i, hi, hz, hsz, hb⟩ := info_parts B.i; subst hn; subst hk
  have hlen : (bvs (l.take dLen)).length = Nat.min l.length dLen := by
    show _ = min l.length dLen; simp [bvs]; omega
  have hsrc : ∀ j u, (bvs (l.take dLen))[j]? = some u → w.cell? (ad.add j) = some u := by
    intro j u hu; by_cases h0 : 0 < (bvs l).length
    · obtain ⟨ad', e, hc⟩ := hr h0
      cases e; apply hc
      have hj : j < (l.take dLen).length := by
        have := (List.getElem?_eq_some_iff.1 hu).1; rwa [xae] at this
      rw [xd2, List.getElem?_take_of_lt (by simp at hj; omega)] at hu; rw [xd2, hu]
    · have : l = [] := List.eq_nil_of_length_eq_zero (by simpa [bvs] using h0)
      subst this; simp [bvs] at hu
  have hfl : off + (bvs (l.take dLen)).length ≤ cs.length := by
    rw [hlen]; have : Nat.min l.length dLen ≤ dLen := Nat.min_le_right _ _; omega
  have hrun := run_copy_row (P := P) w T T o.type E g off dLen dCap ad l.length sCap cs.toArray t (bvs (l.take dLen)) B.t (by rw [hi]; simp [hsz]) hg hlen hsrc (by simpa using hfl) (xbo _); unfold Oper.wp; simp [execOp, ho, resolve, invoke, builtin, hd, hs, hrun, Result.andThen]; have := h _ (hg.row (splice cs off (bvs (l.take dLen)))) (xdd w g _) (by simp); rw [← hlen] at this; show K (a.put o.dst _) _; simpa [goInt, splice, xae] using this
def Any (_ : World) : Prop := True
theorem xhx (w : World) : Any w := trivial
section
variable {P : Program} {ops : Array Oper} {Q : Exit → Act → World → Prop} {S' : World → Prop}
theorem xnj {F F' : Nat → Bool} : ∀ (fuel : Nat) (listed : Array Bool) (a : Act) (w : World), wpF P ops Q S' F' fuel listed a w → wpF P ops Q Any F fuel listed a w
  | 0, _, _, _, h => h
  | fuel + 1, _, _, _, h => ⟨h.1, fun i hi => wpOp_mono (fun a' w' h' => ⟨fun _ => trivial, xnj fuel _ a' w' h'.2⟩) (h.2 i hi)⟩
theorem rg_turn {F pl : List Nat} {g : Nat} {dn : List Nat} {rest : List (Nat × Oper)} {a : Act} {w : World} (S' : World → Prop) (F' : List Nat) (hp : xdq ops F' pl dn (rest.map (·.1)) = true)
    (h : wpT P ops Q S' F' pl g dn rest a w) : wpT P ops Q Any F pl g dn rest a w := by
  intro hr _ hQ; exact xnj _ _ _ _ (h hr hp hQ)
end
theorem xbg {P : Program} {w : World} {o : Oper} {a : Act} {Q : Exit → Act → World → Prop} {K : Act → World → Prop} {v : Value} (hr : (execOp a.eval o).run P w = .ok (.value v) w) (h : K (a.put o.dst v) w) : o.wp P a w K Q := by
  unfold Oper.wp; rw [hr]; exact h
theorem xjp {w : World} {a : Act} {o : Oper} (x : Operand) (ho : o.op = .call { callee := .builtin .len, args := #[x], argTypes := #[25] }) (A : Option Addr) (n c : Nat) (hx : a.eval x = .slice A n c) :
    (execOp a.eval o).run Tryz.prog w = .ok (.value (.int .i64 (n : Int))) w := by
  unfold execOp; simp only [ho, resolve, invoke, builtin, Sem.run_bind, Sem.run_pure, Result.andThen_ok, List.map_toArray, qk, ql, hx]; go_simp
def WrS (g M : Nat) (m x : List UInt8) (w : World) (v : Value) (wr : World) : Prop :=
  ∃ (d r b' : List UInt8) (A' : Option Addr) (n' c' : Nat), Hid (d ++ r = x) ∧ v = .slice A' n' c' ∧ r.length = n' ∧ (0 < n' → Lft (· = g) wr A' n' c' r) ∧ StB (m ++ d) b' ∧ Blk wr g 324 (stC (hOf (m ++ d)) b' ((m ++ d).length % 64) M) ∧ Fr (· = g) w wr
theorem rd_lft {w0 w : World} {A : Option Addr} {n c g : Nat} {x : List UInt8} (hr : Rd w0 A (bvs x)) (hl : x.length = n) (hcap : n ≤ c) (hmax : c ≤ maxLen) (h0 : 0 < n) (hb : Below w0.heap.size w0 w) (hg : w0.heap.size ≤ g) : Lft (· = g) w A n c x := by
  refine ⟨hl, hcap, hmax, hr.below hb, ?_⟩; intro ad had e; obtain ⟨ad', h1, h2⟩ := hr.at_ (k := 0) (by rw [xae]; omega); rw [had] at h1; cases h1; have h3 := World.block_lt_of_cell? _ _ h2; have h4 : (ad.add 0).block = ad.block := by unfold Addr.add; split <;> rfl
  rw [h4] at h3; have h5 : ad.block = g := e; omega
theorem xel (g : Nat) (m : List UInt8) (A : Option Addr) (n c : Nat) (x : List UInt8) (w : World) (h : St w g m) (hl : x.length = n) (hx : 0 < n → Lft (· = g) w A n c x) (hb : m.length + n ≤ 4611686018427387904) :
    Calls Tryz.prog 158 #[.pointer (some ⟨g, 0, none⟩), .slice A n c] w fun e w' => e = .returned (.int .i64 (n : Int)) ∧ St w' g (m ++ x) ∧ Fr (· = g) w w' := by
  obtain ⟨b, hs, hblk⟩ := h; have C := hZ (xqh g w hblk.at0); have HHL := xck m; have hA := hZ (hblk.atA HHL hs.1); have hset := hblk.set_ 74 (.int .i64 ((m.length + n : Nat) : Int)); rw [xnb HHL hs.1] at hset; have hlen := hZ (xc8 HHL hs.1 (n := m.length % 64) (all := m.length)); have HX := hZ hl; have HM : Hid ((m ++ x).length = m.length + n) := hZ (by rw [List.length_append, hl]); have HS := hZ hs; have hfr : Fr (· = g) w (w.setCell ⟨g, 74, none⟩ (.int .i64 ((m.length + n : Nat) : Int))) := Fr.setCell (p := ⟨g, 74, none⟩) (Fr.refl (· = g) w) (.inl rfl) _; obtain ⟨M, hMd⟩ : ∃ M, m.length + n = M := ⟨_, rfl⟩; rw [hMd] at hset HM hb hfr; have hM2 : (m.length : Int) + (n : Int) = (M : Int) := by omega
  have HM2 := hZ hM2; clear hMd hM2 hs hl; go_enter Tryz.func158, Tryz.ntmps158
  go_upto_region 3 with (first
    | (go_at_call 215; with_reducible refine C.out.mono ?_; rintro e w1 ⟨rfl, rfl⟩))
  refine X13 ?_; refine xaa rfl _ (xlt _ rfl g rfl) ?_; refine X5 ?_; refine xaa rfl _ (xcv _ rfl _ _ rfl hA.out) ?_; refine X14 ?_; refine xaa rfl _ (xjp _ rfl A n c rfl) ?_; refine X5 ?_; refine xaa rfl _ (xay _ _ rfl _ _ ((M : Nat) : Int) rfl rfl HM2.out (by omega)) ?_; refine X15 ?_; refine xaa rfl _ (xlt _ rfl g rfl) ?_; refine X5 ?_; refine xdm rfl one3 (.tmp 17) (.tmp 15) rfl g 74 324 _ (.int .i64 ((M : Nat) : Int)) rfl rfl rfl hblk (by rw [hlen.out]; decide) ?_; refine X16 ?_; clear hblk hA hlen; generalize World.setCell w _ _ = w1 at *; go_wp2_with fail
  go_loopw [5] (fun v wr => WrS g M m x w v wr) (fun v _ => xjn v)
  case atStart => exact ⟨[], x, b, A, n, c, rfl, rfl, HX.out, fun h0 => (hx h0).fr hfr (fun k e => e), by rw [List.append_nil]; exact HS.out, by rw [List.append_nil]; exact hset, hfr⟩
  case round =>
    clear hset hfr; obtain ⟨d, r, b', A', n', c', hdr, rfl, hL, hr, hsb, hblk, hfr⟩ := hrel; obtain ⟨N, hN⟩ : ∃ N, (m ++ d).length % 64 = N := ⟨_, rfl⟩; have hN64 : N < 64 := by omega
    have HN := hZ hN; rw [hN] at hblk; clear hN; have HHD := xck (m ++ d); by_cases h0 : 0 < n'
    · have hr := hr h0
      have hz0 : (0 : Int) < (n' : Int) := by omega
      obtain ⟨ad, rfl⟩ : ∃ ad, A' = some ad := by
        obtain ⟨ad, h, _⟩ := hr.rd.at_ (k := 0) (by rw [xae]; omega); exact ⟨ad, h⟩
      have hcn := hZ (hblk.atN HHD hsb.1); obtain ⟨k, hk⟩ : ∃ k, Nat.min n' (64 - N) = k := ⟨_, rfl⟩; have hk' : min n' (64 - N) = k := hk; have hkn : k ≤ n' := by omega
      have hkN : N + k ≤ 64 := by omega
      have hk0 : 0 < k := by omega
      have hkc : N + k < 64 → k = n' := by omega
      have HK := hZ hk; clear hk; obtain ⟨y, hy⟩ : ∃ y, y = r.take (64 - N) := ⟨_, rfl⟩
      have hyk : y = r.take k := by
        rw [hy]; by_cases hc : n' ≤ 64 - N
        · rw [List.take_of_length_le (by omega), List.take_of_length_le (by omega)]
        · rw [show 64 - N = k by omega]
      have hyl : y.length = k := by rw [hyk, List.length_take]; omega
      have hcut := hr.cut k hkn; have hdr' : Hid ((d ++ y) ++ r.drop k = x) := hZ (by rw [List.append_assoc, hyk, List.take_append_drop]; exact hdr.out); have hput : splice (stC (hOf (m ++ d)) b' N M) (9 + N) (bvs y) = stC (hOf (m ++ d)) (splice b' N y) N M := xrv HHD hsb.1 N y (by omega); have hbl : (splice b' N y).length = 64 := by rw [xc2 _ _ _ (by rw [hsb.1]; omega)]; exact hsb.1
      have hset : (stC (hOf (m ++ d)) (splice b' N y) N M).set 73 (.int .i64 ((N + k : Nat) : Int)) = stC (hOf (m ++ d)) (splice b' N y) (N + k) M := xk1 HHD hbl (N + k); have HPUT := hZ hput; have HSET := hZ hset; have HY := hZ hy; have HYL := hZ hyl; have HBL := hZ hbl; have hfew := hZ (fun (hlt : N + k < 64) => stb_few hsb y (by rw [HN.out, hyl]; exact hlt)); have hful := hZ (fun (hlt : N + k = 64) => stb_full hsb y (by rw [HN.out, hyl]; exact hlt)); rw [HN.out] at hfew hful; have hcl := hZ (xc8 HHD hsb.1 (n := N) (all := M)); have hcl2 := hZ (xc8 HHD hbl (n := N) (all := M)); clear hy hyk hyl hput hset hk' hL hbl; go_upto_region 6 with fail; refine rB (fun (W : World) => World.cell? W ⟨g, 73, none⟩ = some (Value.int IntKind.i64 (N : Int))) [] [9] [0, 1, 2, 3, 4, 5, 6, 7, 8, 9, 10] 0 ?_; refine X3 ?_
      have hS : (fun (W : World) => World.cell? W ⟨g, 73, none⟩ = some (Value.int IntKind.i64 (N : Int))) _ := hcn.out; refine X6 ?_; refine X17 ?_; refine X5 ?_; refine xab rfl rfl hS (fun W hW => xqg _ rfl g rfl) ?_; refine X8 ?_; refine X17 ?_; refine X5 ?_; refine xab rfl rfl hS (fun W hW => xiz _ rfl g rfl) ?_; refine X5 ?_; refine xab rfl rfl hS (fun W hW => xcv _ rfl _ _ rfl hW) ?_; refine X5 ?_; refine xab rfl rfl hS (fun W hW => xgj ia97 _ _ rfl g 9 N _ rfl rfl hN64) ?_; refine X5 ?_; refine X4 ?_; refine Xf ?_; intro K hK; refine xni bt (.tmp 29) (.tmp 30) rfl g (9 + N) (64 - N) (64 - N) ad n' c' rfl rfl 324 _ r hblk.drew hr.rd.drew hr.len (by rw [hcl.out]; omega) k HK.out ?_; intro w2 hb2 hg2 hs2; rw [← HY.out, HPUT.out] at hb2; have hS1 := hb2.atN HHD HBL.out; refine hK _ _ (fun _ => hS1) ?_; clear hK; refine X5 ?_
      refine xab (v := ?_) rfl rfl hS1 ?_ ?_; rotate_left; (· intro W hW; (try subst hW); go_simp; try with_reducible rfl); refine Xm ?_; have hfr2 : Fr (· = g) w w2 := hfr.drew.grown hg2 (by intro k hk; cases hk; exact .inl rfl); have hr2 : Fr (· = g) wr w2 := (Fr.refl (· = g) wr).drew.grown hg2 (by intro k hk; cases hk; exact .inl rfl); have hc2 := hZ (hb2.atN HHD HBL.out); clear hg2 hs2 hblk hfr hcn; go_upto_region 7 with fail; refine X18 ?_; refine xaa rfl _ (xco st24 _ _ rfl (some ad) n' c' k .i64 rfl rfl hkn) ?_; refine X19 ?_; go_upto_region 8 with fail; have hNk : (N : Int) + (k : Int) = ((N + k : Nat) : Int) := by omega
      have HNk := hZ hNk; obtain ⟨N2, hN2⟩ : ∃ N2, N + k = N2 := ⟨_, rfl⟩; have HN2 := hZ hN2; rw [hN2] at hNk HNk hkN hkc HSET hfew hful; clear hN2 hNk; refine X13 ?_; refine xaa rfl _ (xiz _ rfl g rfl) ?_; refine X5 ?_; refine xaa rfl _ (xcv _ rfl _ _ rfl hc2.out) ?_; refine X14 ?_; refine xaa rfl _ (xay _ _ rfl _ _ ((N2 : Nat) : Int) rfl rfl HNk.out (by omega)) ?_; refine X15 ?_; refine xaa rfl _ (xiz _ rfl g rfl) ?_; refine X5 ?_; refine xdm rfl one3 (.tmp 42) (.tmp 40) rfl g 73 324 _ (.int .i64 ((N2 : Nat) : Int)) rfl rfl rfl hb2 (by rw [hcl2.out]; decide) ?_; refine X16 ?_; have hb3 := hb2.set_ 73 (.int .i64 ((N2 : Nat) : Int)); rw [HSET.out] at hb3; have hfr3 : Fr (· = g) w2 (w2.setCell ⟨g, 73, none⟩ (.int .i64 ((N2 : Nat) : Int))) := Fr.setCell (p := ⟨g, 73, none⟩) (Fr.refl (· = g) w2) (.inl rfl) _
      generalize World.setCell w2 _ _ = w3 at *; have hfr4 := hfr2.trans hfr3; have hr4 := hr2.trans hfr3; have hrest := hcut.fr hr4 (fun k e => e); have hc3 := hZ (hb3.atN HHD HBL.out); clear hfr2 hfr3 hr2 hb2 hcut hr hc2 hcl hcl2 HSET HPUT; by_cases hful' : N2 = 64
      · obtain ⟨f1, f2, f3, f4⟩ := hful.out hful'
        subst hful'; have C2 := fun u => hZ (step_any (hOf (m ++ d)) (splice b' N y) u HHD (hOf_lt _) HBL.out)
        rw [← f2] at C2; have HF2 := hZ f2; have HH2 := hZ (xck (m ++ d ++ y)); have hcl3 := hZ (xc8 HHD HBL.out (n := 64) (all := M)); have hcl4 := hZ (xc8 HH2.out HBL.out (n := 64) (all := M)); have hdh : Hid (((stC (hOf (m ++ d)) (splice b' N y) 64 M).drop 1).take 8 = wvs (hOf (m ++ d))) := hZ (stC_h HHD); have hdb : Hid (((stC (hOf (m ++ d)) (splice b' N y) 64 M).drop 9).take 64 = bvs (splice b' N y)) := hZ (stC_b HHD HBL.out); have hph : Hid (splice (stC (hOf (m ++ d)) (splice b' N y) 64 M) 1 (wvs (hOf (m ++ d ++ y))) = stC (hOf (m ++ d ++ y)) (splice b' N y) 64 M) := hZ (xru HHD _ HH2.out); have hp0 : Hid ((stC (hOf (m ++ d ++ y)) (splice b' N y) 64 M).set 73 (.int .i64 ((0 : Nat) : Int)) = stC (hOf (m ++ d ++ y)) (splice b' N y) 0 M) := hZ (xk1 HH2.out HBL.out 0); have HSB := hZ (f1 _ HBL.out); rw [HYL.out] at *; unfold arrW arr8 at C2
        go_upto_region 10 with (first
          | ((with_reducible refine xat 46 ?_); refine xaa rfl _ (xcv _ rfl _ _ rfl hc3.out) ?_))
        refine rB (Any) [] [10, 11, 12, 13, 14, 15, 16] [0, 1, 2, 3, 4, 5, 6, 7, 8, 9, 10, 11, 12, 13, 14, 15, 16] 0 ?_; refine X3 ?_; have hS0 : (Any) _ := xhx w3.drew; refine X1a ?_; refine X5 ?_; refine X1a ?_; refine X5 ?_; refine X1a ?_; refine X5 ?_; refine rg_turn (Below w3.heap.size w3) [13, 14, 15, 16] (by kernel_rfl) ?_; have hS : Below w3.heap.size w3 w3.drew := (Below.refl _ _).drew; refine X17 ?_; refine X5 ?_; refine xab rfl rfl hS (fun W hW => xls _ rfl g rfl) ?_; refine X5 ?_; refine xab rfl rfl hS (fun W hW => xb8 at96 _ rfl g 1 324 _ (wvs (hOf (m ++ d))) rfl (hb3.below hW hb3.lt) hdh.out (by rw [xag]; exact HHD)) ?_; refine X8 ?_; refine X17 ?_; refine X5 ?_; refine xab rfl rfl hS (fun W hW => xqg _ rfl g rfl) ?_; refine X5 ?_
        refine xab rfl rfl hS (fun W hW => xb8 at97 _ rfl g 9 324 _ (bvs (splice b' N y)) rfl (hb3.below hW hb3.lt) hdb.out (by rw [xae]; exact HBL.out)) ?_; refine X5 ?_; refine xc7 rfl rfl ?_; intro K hK; go_simp; (with_reducible refine (C2 _).out.mono ?_); rintro e w5 ⟨rfl, hw5⟩; have hS1 : Below w3.heap.size w3 w5 := Below.trans hS (hw5.mono (Below.size hS)); refine hK _ _ (fun _ => hS1) ?_; clear hK; refine Xe ?_; intro K hK; refine X1b ?_; refine hK _ _ (fun _ => hS1) ?_; clear hK; refine Xf ?_; intro K hK; refine xbg (xls _ rfl g rfl) ?_; refine hK _ _ (fun _ => hS1) ?_; clear hK; refine Xf ?_; intro K hK; refine xbs at96.i (.tmp 60) (.tmp 58) rfl g 1 324 _ (wvs (hOf (m ++ d ++ y))) rfl rfl (hb3.below hS1 hb3.lt) (by rw [xag]; exact HH2.out) (by rw [hcl3.out]; decide) (xdr _) ?_; intro w6 hb6 hg6 hs6; rw [hph.out] at hb6
        refine Xg ?_; clear hK; refine Xe ?_; intro K hK; refine X1b ?_; refine Xg ?_; clear hK; refine Xf ?_; intro K hK; refine xbg (xiz _ rfl g rfl) ?_; refine Xg ?_; clear hK; refine Xf ?_; intro K hK; refine xb9 one3 _ _ rfl g 73 324 _ (.int .i64 0) rfl rfl rfl hb6 (by rw [hcl4.out]; decide) ?_; refine Xg ?_; clear hK; refine X9 ?_; have hb7 := hb6.set_ 73 (.int .i64 0); rw [show (Value.int .i64 0) = .int .i64 ((0 : Nat) : Int) from rfl, hp0.out] at hb7
        have hfr7 : Fr (· = g) w3 (w6.setCell ⟨g, 73, none⟩ (.int .i64 0)) :=
          ((Fr.of_below hS1).grown hg6 (by intro k hk; cases hk; exact .inl rfl)).trans (Fr.setCell (p := ⟨g, 73, none⟩) (Fr.refl (· = g) w6) (.inl rfl) _)
        go_wp2_with fail; go_roundw
        case rel =>
          refine ⟨d ++ y, r.drop k, splice b' N y, _, _, _, hdr', rfl, hrest.len, fun _ => hrest.fr hfr7 (fun k e => e), by rw [← List.append_assoc]; exact HSB.out, ?_, hfr4.trans hfr7⟩; rw [← List.append_assoc, f3]; exact hb7
        case measure => simp only [xjn]; omega
      · obtain ⟨f1, f2, f3⟩ := hfew.out (by omega)
        have hne : ((N2 : Int) == 64) = false := by simp; omega
        rw [HYL.out] at f3
        go_wp2_with (first
          | ((with_reducible refine xat 46 ?_); refine xaa rfl _ (xcv _ rfl _ _ rfl hc3.out) ?_))
        go_roundw
        case rel =>
          refine ⟨d ++ y, r.drop k, splice b' N y, _, _, _, hdr', rfl, hrest.len, fun _ => hrest, by rw [← List.append_assoc]; exact f1, ?_, hfr4⟩; rw [← List.append_assoc, f2, f3, HN2.out]; exact hb3
        case measure => simp only [xjn]; omega
    · obtain rfl : n' = 0 := by omega
      obtain rfl : r = [] := List.eq_nil_of_length_eq_zero hL; obtain rfl : d = x := by have h := hdr.out; rwa [List.append_nil] at h
      clear hr; go_upto_region 11 with fail; refine X11 ?_; refine xaa rfl _ (xjp _ rfl A n c rfl) ?_; refine X19 ?_; go_wp2_with fail; go_ret; refine ⟨rfl, ⟨b', hsb, ?_⟩, hfr⟩; rw [HN.out, HM.out]; exact hblk
theorem xr4 {P : Program} {w : World} {a : Act} {o : Oper} {t t' : TypeId} (x y : Operand) (ho : o.op = .binOp .and t x y t') (m n r : Nat) (hx : a.eval x = .int .u64 (m : Int)) (hy : a.eval y = .int .u64 (n : Int)) (hm : m < 18446744073709551616) (hn : n < 18446744073709551616) (hr : m &&& n = r) :
    (execOp a.eval o).run P w = .ok (.value (.int .u64 (r : Int))) w := by
  subst hr; unfold execOp; simp only [ho, hx, hy]; go_simp; rw [u64_and_nat _ _ hm hn]
theorem and_low (T : Nat) : T &&& 4294967295 = T % 4294967296 := Nat.and_two_pow_sub_one_eq_mod T 32
theorem xjq (x : Nat) (u : World) (hx : x < 4294967296) :
    Calls Tryz.prog 77 #[.int .i64 (x : Int)] u fun e w' => ∃ A c, e = .returned (.tuple #[.slice A 4 c, .int .i64 0]) ∧ OwnB w' u.heap.size 5 (.slice A 4 c) (be 4 x) ∧ Below u.heap.size u w' := by
  have e1 : putE 4294967295 (x : Int) = 0 := by unfold putE; rw [if_pos (by omega)]
  have e2 : putL 4 4294967295 (x : Int) = be 4 x := by unfold putL; rw [if_pos (by omega), Int.toNat_natCast]
  refine (put32 (x : Int) u (by omega)).mono ?_; rintro e w' ⟨v, rfl, ho, hw⟩; rw [e1, e2] at *; obtain ⟨A, c, rfl, _⟩ := ho.rd; rw [xaq] at ho ⊢; exact ⟨A, c, rfl, ho, hw⟩
theorem OwnB.lft {w : World} {base E g : Nat} {A : Option Addr} {n c : Nat} {l : List UInt8} (h : OwnB w base E (.slice A n c) l) (hg : g < base) : Lft (· = g) w A n c l := by
  obtain ⟨A', c', e, h1, h2, h3⟩ := h.rd; injection e with e1 e2 e3; subst e1; subst e3; refine ⟨e2.symm, by omega, h2, h3, ?_⟩; intro ad had e; rcases h with ⟨h, _⟩ | ⟨g', sp, h, hb, _⟩
  · injection h with h _ _
    rw [had] at h; cases h
  · injection h with h _ _
    rw [had] at h; cases h; simp at e; omega
theorem xlv {w : World} {g : Nat} (x : UInt8) (v : Value) (hv : bv x = v) (hg : g < w.heap.size) : Lft (· = g) (w.alloc (.cells #[v] 5)) (some ⟨w.heap.size, 0, none⟩) 1 1 [x] :=
  ⟨rfl, Nat.le_refl _, by decide, one_new w x v hv, by intro ad h e; cases h; simp at e; omega⟩
theorem xjr {S : Nat → Prop} {a b : World} {B : Nat} (h : Fr S a b) (hS : ∀ k, S k → B ≤ k) (hB : B ≤ a.heap.size) : Below B a b :=
  ⟨h.os, h.tape, h.output, h.size, fun k hk => h.block k (by omega) (fun hs => by have := hS k hs; omega)⟩
def allOf (w : World) (g : Nat) : Nat := match w.cell? ⟨g, 74, none⟩ with
  | some (.int _ z) => z.toNat
  | _ => 0
theorem St.all {w : World} {g : Nat} {m : List UInt8} (h : St w g m) : allOf w g = m.length := by
  obtain ⟨b, hs, hb⟩ := h; unfold allOf; rw [hb.atA (xck m) hs.1]; simp
structure SumS (N g : Nat) (w wr : World) (m : List UInt8) : Prop where
  bel : Below N w wr
  out : Blk wr N 23 (bvs (zb 32))
  st : St wr g m
  lt : N < g
theorem SumS.write {N g : Nat} {w wr w2 : World} {m m2 : List UInt8} (h : SumS N g w wr m) (hf : Fr (· = g) wr w2) (hs : St w2 g m2) : SumS N g w w2 m2 :=
  ⟨h.bel.trans (xjr hf (fun k e => by rw [e]; exact Nat.le_of_lt h.lt) (Nat.le_of_lt h.out.lt)), h.out.fr hf (fun e => by have := h.lt; omega), hs, h.lt⟩
theorem SumS.below {N g : Nat} {w wr w2 : World} {m : List UInt8} (h : SumS N g w wr m) (hb : Below wr.heap.size wr w2) : SumS N g w w2 m :=
  ⟨h.bel.trans (hb.mono (Nat.le_of_lt h.out.lt)), h.out.below hb h.out.lt, h.st.below hb, h.lt⟩
theorem SumS.alloc {N g : Nat} {w wr : World} {m : List UInt8} (h : SumS N g w wr m) (o : Obj) : SumS N g w (wr.alloc o) m := h.below ((Below.refl _ _).alloc (Nat.le_refl _) o)
theorem xhy (g : Nat) (m : List UInt8) (A : Option Addr) (c : Nat) (y : UInt8) (w : World) (h : St w g m) (hx : Lft (· = g) w A 1 c [y]) (hb : m.length + 1 ≤ 4611686018427387904) :
    Calls Tryz.prog 158 #[.pointer (some ⟨g, 0, none⟩), .slice A 1 c] w fun e w' => e = .returned (.int .i64 1) ∧ St w' g (m ++ [y]) ∧ Fr (· = g) w w' := xel g m A 1 c [y] w h rfl (fun _ => hx) hb
theorem xo9 (a y : List UInt8) (k : Nat) : splice (bvs a) k (bvs y) = bvs (splice a k y) := by
  unfold splice bvs; simp [List.map_take, List.map_drop]
theorem xr5 (g : Nat) (m : List UInt8) (w : World) (h : St w g m) (hb : m.length ≤ 1152921504606846976) :
    Calls Tryz.prog 159 #[.pointer (some ⟨g, 0, none⟩)] w fun e w' => e = .returned (arr8 (shaL m)) ∧ Below w.heap.size w w' := by
  obtain ⟨b, hs, hblk⟩ := h; have C := fun (u : World) (hu : u.cell? ⟨g, 0, none⟩ = some (.bool true)) => hZ (xqh g u hu)
  have HHL := hZ (xck m); have hcl : Hid ((stC (hOf m) b (m.length % 64) m.length).length = 75) := hZ (xc8 HHL.out hs.1); have h1 := stC_one (hOf m) b (m.length % 64) m.length; have HF : Hid (∀ (w' : World) (g' : Nat), Blk w' g' 324 (stC (hOf m) b (m.length % 64) m.length) → St w' g' m) := hZ (fun w' g' h => ⟨b, hs, h⟩); have hb0 : Blk (w.alloc (.cells (bvs (zb 32)).toArray 23)) g 324 (stC (hOf m) b (m.length % 64) m.length) := hblk.alloc _; have hc0 := hZ (hb0.at0); refine X1c ?_; intro hbz; refine X1d ?_; intro hw0; have HPA : Hid ((hOf (pad m)).flatMap (be 4) = shaL m) := hZ rfl; clear hs hblk; generalize stC (hOf m) b (m.length % 64) m.length = cs at *; generalize shaL m = res at *; unfold arr8; go_enter Tryz.func159, Tryz.ntmps159; go_upto_region 1 with fail; generalize hW : World.alloc w _ = w0
  have h3 : Blk w0 g 324 cs ∧ Hid (w0.cell? ⟨g, 0, none⟩ = some (.bool true)) ∧ Blk w0 w.heap.size 23 (bvs (zb 32)) ∧ Below w.heap.size w w0 := by rw [← hW]; exact ⟨hb0, hc0, hbz, hw0⟩
  clear hb0 hc0 hbz hw0 hW; obtain ⟨hb0, hc0, hbz, hw0⟩ := h3
  go_upto_region 3 with (first
    | (go_at_call 215; with_reducible refine (C _ hc0.out).out.mono ?_; rintro e w1 ⟨rfl, rfl⟩))
  have hz0 : Blk (w0.alloc (.cells Tryz.zeroCells324 324)) w0.heap.size 324 zst := by rw [zero128]; exact Blk.new _ _ _
  have hz1 : Blk (w0.alloc (.cells Tryz.zeroCells324 324)) w.heap.size 23 (bvs (zb 32)) := hbz.alloc _; have hz2 : Below w.heap.size w (w0.alloc (.cells Tryz.zeroCells324 324)) := hw0.alloc (Nat.le_of_lt hbz.lt) _; refine X13 ?_; refine xaa rfl _ (xa6 at128 (.tmp 18) rfl g 324 cs rfl hb0 hcl.out) ?_; refine X5 ?_; refine wpList_plain rfl fun K hK => ?_; go_simp
  refine Xu ?_; clear hK; refine xak at128.i rfl (.tmp 3) (.tmp 19) rfl w0.heap.size 0 324 zst cs rfl rfl hz0 hcl.out (by rw [xjo]; exact Nat.le_refl 75) h1 ?_; intro w2 hb2 hg2 hs2; refine X16 ?_; rw [xbh _ _ (by rw [xjo, hcl.out])] at hb2; have hlt0 := hbz.lt; have s2 : SumS w.heap.size w0.heap.size w w2 m := ⟨hz2.grown hg2 hz2.size (by intro k hk; cases hk; omega), hz1.grown hg2 (by simp; omega), HF.out _ _ hb2, hlt0⟩; clear HF hz0 hz1 hz2 hb2 hg2 hs2 hb0 hc0 hbz hw0 C HHL; generalize w0.heap.size = G at *; obtain ⟨b2, hsb2, hblk2⟩ := s2.st; have hA := hZ (hblk2.atA (xck m) hsb2.1); clear hblk2 hsb2 b2; obtain ⟨T, hT⟩ : ∃ T, 8 * m.length = T := ⟨_, rfl⟩; have HT := hZ hT; have HTB : Hid ((m.length : Int) * 8 = (T : Int)) := hZ (by omega); have hTb : T ≤ 9223372036854775808 := by omega
  clear hT; go_upto_region 4 with fail; refine Xs ?_; refine xaa rfl _ (xlt _ rfl G rfl) ?_; refine X5 ?_; refine xaa rfl _ (xcv _ rfl _ _ rfl hA.out) ?_; refine X5 ?_; refine xaa rfl _ (xd7 Tryz.underlying3 Tryz.underlying308 _ rfl .i64 (m.length : Int) (m.length : Int) rfl rfl (by rw [IntKind.wrap_u64]; omega)) ?_; refine X5 ?_; refine xaa rfl _ (xrz _ _ rfl (m.length : Int) 8 (T : Int) rfl rfl HTB.out (by have := HTB.out; omega)) ?_; refine X19 ?_; go_upto_region 5 with fail; have s3 := s2.alloc (.cells #[.int .u8 128] 5); have hG2 := s2.st.lt; refine Xs ?_; refine wpList_plain rfl fun K hK => ?_; go_simp
  refine Xu ?_; clear hK; refine wpList_plain rfl fun K hK => ?_; go_simp
  (with_reducible refine (xhy G m (some ⟨w2.heap.size, 0, none⟩) 1 128 _ s3.st (xlv 128 _ rfl hG2) (by omega)).mono ?_); rintro e w4 ⟨rfl, hs4, hf4⟩; refine hK _ _ ?_; clear hK; refine X16 ?_; have s4 : SumS w.heap.size G w w4 (xed m 0) := s3.write hf4 hs4; clear s2 s3 hs4 hf4 hA hG2; go_wp2_with fail; have hz64 : padz m.length < 64 := padz_lt _
  go_loopw [26] (fun _ wr => ∃ j : Nat, j ≤ padz m.length ∧ SumS w.heap.size G w wr (xed m j)) (fun _ wr => m.length + 65 - allOf wr G)
  case atStart => exact ⟨0, by omega, s4⟩
  case round =>
    clear s4; obtain ⟨j, hj, s4⟩ := hrel; obtain ⟨b3, hsb3, hblk3⟩ := s4.st; obtain ⟨r, hr1⟩ : ∃ r, (m.length + 1 + j) % 64 = r := ⟨_, rfl⟩; have hst := xo6 m.length j hj; rw [hr1] at hst; have hcn := hblk3.atN (xck _) hsb3.1; rw [xdh, hr1] at hcn; have HC := hZ hcn; have hall := hZ (s4.st.all); rw [xdh] at hall; have hG4 := s4.st.lt; clear hblk3 hsb3 b3 hr1 hcn; by_cases hjl : j = padz m.length
    · obtain rfl : r = 56 := hst.2 hjl
      subst hjl; clear hst hj; obtain ⟨hi, hhi⟩ : ∃ hi, T / 4294967296 = hi := ⟨_, rfl⟩; obtain ⟨lo, hlo⟩ : ∃ lo, T % 4294967296 = lo := ⟨_, rfl⟩; have hhib : hi < 4294967296 := by omega
      have hlob : lo < 4294967296 := by omega
      have HHI : Hid (IntKind.i64.wrap ((T / 4294967296 : Nat) : Int) = (hi : Int)) := hZ (by rw [hhi]; exact IntWalk.i64_in _ (by omega)); have HLO : Hid (T &&& 4294967295 = lo) := hZ (by rw [and_low]; exact hlo); have HLW : Hid (IntKind.i64.wrap (lo : Int) = (lo : Int)) := hZ (IntWalk.i64_in _ (by omega)); have HPAD : Hid ((xed m (padz m.length) ++ be 4 hi) ++ be 4 lo = pad m) := hZ (by rw [List.append_assoc, ← hhi, ← hlo, ← be_split, ← HT.out]; exact xrw m); have HPL : Hid ((xed m (padz m.length)).length = m.length + 1 + padz m.length) := hZ (xdh _ _); have P1 := fun u => hZ (xjq hi u hhib)
      have P2 := fun u => hZ (xjq lo u hlob)
      clear hhi hlo; generalize xed m (padz m.length) = q at *
      go_upto_region 8 with (first
        | ((with_reducible refine xat 27 ?_); refine xaa rfl _ (xcv _ rfl _ _ rfl HC.out) ?_))
      go_upto_region 10 with (first
        | ((with_reducible refine xat 33 ?_); refine xaa rfl _ (xr0 _ _ rfl T 32 _ rfl rfl (by decide) 4294967296 rfl) ?_)
        | ((with_reducible refine xat 34 ?_); refine xaa rfl _ (xd7 Tryz.underlying308 Tryz.underlying2 _ rfl .u64 _ (hi : Int) rfl rfl HHI.out) ?_)
        | ((with_reducible refine xat 40 ?_); refine xaa rfl _ (xr4 _ _ rfl T 4294967295 lo rfl rfl (by omega) (by decide) HLO.out) ?_)
        | ((with_reducible refine xat 41 ?_); refine xaa rfl _ (xd7 Tryz.underlying308 Tryz.underlying2 _ rfl .u64 (lo : Int) (lo : Int) rfl rfl HLW.out) ?_)
        | (go_at_call 77; with_reducible refine (P1 _).out.mono ?_; rintro e w5 ⟨A5, c5, rfl, ho5, hw5⟩)
        | (go_at_call 77; with_reducible refine (P2 _).out.mono ?_; rintro e w6 ⟨A6, c6, rfl, ho6, hw6⟩))
      have s6 : SumS w.heap.size G w w6 q := (s4.below hw5).below hw6; have hl5 : Lft (· = G) w6 A5 4 c5 (be 4 hi) := (ho5.lft hG4).fr (S := (· = G)) (T := (· = G)) (Fr.of_below hw6) (fun k e => e); have hl6 : Lft (· = G) w6 A6 4 c6 (be 4 lo) := ho6.lft (Nat.lt_of_lt_of_le hG4 hw5.size); clear s4 ho5 ho6 hw5 hw6 hG4 hall; have hq1 : q.length + 4 ≤ 4611686018427387904 := by rw [HPL.out]; omega
      have hq2 : (q ++ be 4 hi).length + 4 ≤ 4611686018427387904 := by rw [List.length_append, xaq, HPL.out]; omega
      go_upto_region 12 with (first
        | (go_at_call 158; with_reducible refine (xel G q A5 4 c5 (be 4 hi) w6 s6.st (xaq _ _) (fun _ => hl5) hq1).mono ?_; rintro e w7 ⟨rfl, hs7, hf7⟩)
        | (go_at_call 158; with_reducible refine (xel G (q ++ be 4 hi) A6 4 c6 (be 4 lo) w7 hs7 (xaq _ _) (fun _ => hl6.fr hf7 (fun k e => e)) hq2).mono ?_; rintro e w8 ⟨rfl, hs8, hf8⟩))
      have s8 : SumS w.heap.size G w w8 (pad m) := by
        rw [← HPAD.out]; exact (s6.write hf7 hs7).write hf8 hs8
      clear s6 hl5 hl6 hs7 hf7 hs8 hf8 hq1 hq2 HPAD HPL P1 P2; generalize pad m = P at *; have t1 := s8.alloc (.cells (bvs (zb 32)).toArray 23); have t2 : Blk (w8.alloc (.cells (bvs (zb 32)).toArray 23)) w8.heap.size 23 (bvs (outW (hOf P) 0)) := by rw [xrx]; exact Blk.new _ _ _
      have hG8 := s8.out.lt; clear s8; go_upto_region 13 with fail; generalize hW : World.alloc w8 _ = w9; have h3 : SumS w.heap.size G w w9 P ∧ Blk w9 w8.heap.size 23 (bvs (outW (hOf P) 0)) := by rw [← hW]; exact ⟨t1, t2⟩
      clear hW t1 t2; obtain ⟨t1, t2⟩ := h3; generalize w8.heap.size = G2 at *; have hHL := xck P; have hHT := hOf_lt P; obtain ⟨b4, hsb4, hblk4⟩ := t1.st; have hdh : Hid (((stC (hOf P) b4 (P.length % 64) P.length).drop 1).take 8 = wvs (hOf P)) := hZ (stC_h hHL); have t3 := t1.bel; have t4 := t1.out; clear t1 hsb4; generalize hOf P = H at *; have HHL := hZ hHL; refine Xs ?_; refine xaa rfl _ (xls _ rfl G rfl) ?_; refine X5 ?_; refine xaa rfl _ (xb8 at96 _ rfl G 1 324 _ (wvs H) rfl hblk4 hdh.out (by rw [xag]; exact HHL.out)) ?_; refine X1e ?_; have hHlt : Hid (∀ d, d < 8 → H[d]? = some (H.getD d 0)) := hZ (fun d hd => xf0 H d (by rw [HHL.out]; exact hd)); have hH32 : Hid (∀ d, H.getD d 0 < 4294967296) := hZ (fun d => xgq H d hHT); have hOS := hZ (fun (i : Nat) (hi : i < 8) => xry H i hHL hi)
      have hOL := hZ (fun (i : Nat) (hi : i ≤ 8) => xnd H i hHL hi); have hOE : Hid (outW H 8 = res) := hZ (by rw [outW_end H hHL]; exact HPA.out); clear hdh hblk4 hHL HPA hHT; go_wp2_with fail
      go_loopw [51] (fun v wr => ∃ i : Nat, i ≤ 8 ∧ v = .int .i64 (i : Int) ∧ Blk wr G2 23 (bvs (outW H i)) ∧ Blk wr w.heap.size 23 (bvs (zb 32)) ∧ Below w.heap.size w wr) (fun v _ => 8 - (intOf v).toNat)
      case atStart => exact ⟨0, by omega, by go_num, t2, t4, t3⟩
      case round =>
        clear t2 t3 t4; obtain ⟨i, hi8, rfl, t2, t4, t3⟩ := hrel; by_cases hil : i < 8
        · have hiz : (i : Int) < 8 := by omega
          obtain ⟨x, hx⟩ : ∃ x, x = H.getD i 0 := ⟨_, rfl⟩; have ex : Hid (H[i]? = some x) := hZ (by rw [hx]; exact hHlt.out i hil); have hx32 : x < 4294967296 := by rw [hx]; exact hH32.out i
          have HS : Hid (splice (outW H i) (4 * i) (be 4 x) = outW H (i + 1)) := hZ (by rw [hx]; exact hOS.out i hil); have HQL := hZ (hOL.out i hi8); have HXW : Hid (IntKind.i64.wrap (x : Int) = (x : Int)) := hZ (IntWalk.i64_in _ (by omega)); have P3 := fun u => hZ (xjq x u hx32)
          have hG2 := t2.lt; clear hx; go_upto_region 15 with fail; refine X11 ?_; refine xaa rfl _ (xjk _ _ rfl H i .i64 x rfl rfl HHL.out ex.out) ?_; refine X1g ?_
          go_upto_region 17 with (first
            | ((with_reducible refine xat 57 ?_); refine xaa rfl _ (xd7 Tryz.underlying306 Tryz.underlying2 _ rfl .u32 (x : Int) (x : Int) rfl rfl HXW.out) ?_)
            | (go_at_call 77; with_reducible refine (P3 _).out.mono ?_; rintro e w10 ⟨A7, c7, rfl, ho7, hw7⟩))
          obtain ⟨A8, c8, e8, h8, h9, hrd⟩ := ho7.rd; injection e8 with e9 e10 e11; subst e9; subst e11; clear e10 h8 h9; have t5 := t2.below hw7 hG2; refine X11 ?_; refine xaa rfl _ (xhv _ _ rfl _ _ (((4 * i : Nat) : Int)) rfl rfl (by omega) (by omega)) ?_; refine X5 ?_; refine xaa rfl _ (xgj ia25 _ _ rfl G2 0 (4 * i) _ rfl rfl (by omega)) ?_; refine X14 ?_; refine xiu bt rfl (.tmp 63) (.tmp 64) rfl G2 (0 + 4 * i) (32 - 4 * i) (32 - 4 * i) A7 4 c7 rfl rfl 23 (bvs (outW H i)) (be 4 x) t5 hrd (xaq _ _) (by rw [xae, HQL.out]; omega) ?_; intro w11 hb11 hg11 hs11; refine X16 ?_; rw [List.take_of_length_le (by rw [xaq]; omega), xo9, Nat.zero_add, HS.out] at hb11; have t6 : Below w.heap.size w w11 := (t3.trans (hw7.mono (Nat.le_of_lt t4.lt))).grown hg11 (by have := t4.lt; have := hw7.size; omega) (by intro k hk; cases hk; omega)
          have t7 := (t4.below hw7 t4.lt).grown hg11 (by simp; omega); go_wp2_with fail; go_roundw
          case rel => exact ⟨i + 1, by omega, by go_num, hb11, t7, t6⟩
          case measure => simp only [intOf]; omega
        · obtain rfl : i = 8 := by omega
          rw [hOE.out] at t2; have hrl : Hid (res.length = 32) := hZ (by rw [← hOE.out]; exact hOL.out 8 (Nat.le_refl _)); clear hOE hOL hOS hHlt hH32; go_upto_region 19 with fail; refine Xs ?_; refine xaa rfl _ (xa6 at25w (.tmp 9) rfl _ 23 (bvs res) rfl t2 (by rw [xae]; exact hrl.out)) ?_; refine X5 ?_; refine xak at25w.i rfl (.tmp 2) (.tmp 67) rfl w.heap.size 0 23 (bvs (zb 32)) (bvs res) rfl rfl t4 (by rw [xae]; exact hrl.out) (by rw [xae, xb6]; omega) (xbo _) ?_; intro w1 hb1 hg1 hs1; refine X16 ?_; go_wp2_with fail; refine Xa ?_; rw [xbh _ _ (by rw [xae, xae, xb6]; exact hrl.out.symm)] at hb1; refine bodyPost_ret (xb3 rfl at25w _ _ w.heap.size 23 (bvs res) rfl hb1 (by rw [xae]; exact hrl.out)) rfl ?_; exact ⟨rfl, t3.grown hg1 t3.size (by intro k hk; cases hk; omega)⟩
    · have hrne : ((r : Int) == 56) = false := by
        have h := fun e => hjl (hst.1 e)
        simp; omega
      have t4 := s4.alloc (.cells #[.int .u8 0] 5); have hbd : (xed m j).length + 1 ≤ 4611686018427387904 := by rw [xdh]; omega
      clear hst
      go_wp2_with (first
        | ((with_reducible refine xat 27 ?_); refine xaa rfl _ (xcv _ rfl _ _ rfl HC.out) ?_)
        | (go_at_call 158; with_reducible refine (xhy G (xed m j) (some ⟨wr.heap.size, 0, none⟩) 1 0 _ t4.st (xlv 0 _ rfl hG4) hbd).mono ?_; rintro e w5 ⟨rfl, hs5, hf5⟩))
      have s5 : SumS w.heap.size G w w5 (xed m (j + 1)) := by
        rw [← xo5]; exact t4.write hf5 hs5
      go_roundw
      case rel => exact ⟨j + 1, by omega, s5⟩
      case measure =>
        have e1 := s5.st.all; have e2 := hall.out; rw [xdh] at e1; omega
structure Loc (w0 : World) (D : Nat → Prop) (L : List (Nat × Nat × List Value)) (w : World) : Prop where
  fr : Fr (fun k => ¬ D k) w0 w
  own : ∀ x ∈ L, ¬ D x.1 ∧ Blk w x.1 x.2.1 x.2.2
  nd : L.Pairwise (fun x y => x.1 ≠ y.1)
  old : ∀ k, D k → k < w0.heap.size
def Old (w0 : World) : Nat → Prop := fun k => k < w0.heap.size
theorem Fr.to_below {S : Nat → Prop} {a b : World} (h : Fr S a b) (hS : ∀ k, k < a.heap.size → S k → b.heap[k]? = a.heap[k]?) : Below a.heap.size a b :=
  ⟨h.os, h.tape, h.output, h.size, fun i hi => by
    by_cases hs : S i
    · exact hS i hi hs
    · exact h.block i hi hs⟩
section
variable {w0 w w' : World} {D : Nat → Prop} {L : List (Nat × Nat × List Value)}
theorem Loc.start (w : World) : Loc w (Old w) [] w := ⟨Fr.refl _ _, fun x h => by simp at h, List.Pairwise.nil, fun k h => h⟩
theorem Loc.start' (w : World) (D : Nat → Prop) (h : ∀ k, D k → k < w.heap.size) : Loc w D [] w := ⟨Fr.refl _ _, fun x h => by simp at h, List.Pairwise.nil, h⟩
theorem Loc.blk (H : Loc w0 D L w) {g t : Nat} {cs : List Value} (h : (g, t, cs) ∈ L) : Blk w g t cs := (H.own _ h).2
theorem Loc.lt (H : Loc w0 D L w) {k : Nat} (h : D k) : k < w.heap.size := Nat.lt_of_lt_of_le (H.old k h) H.fr.size
theorem Loc.heap (H : Loc w0 D L w) {k : Nat} (h : D k) : w.heap[k]? = w0.heap[k]? := H.fr.block k (H.old k h) (fun n => n h)
theorem Loc.cell (H : Loc w0 D L w) {ad : Addr} {v : Value} (hD : D ad.block) (hc : w0.cell? ad = some v) : w.cell? ad = some v := by
  rw [World.cell?_of_block (w := w0) (H.heap hD), hc]
theorem Loc.cellO (H : Loc w0 (Old w0) L w) {ad : Addr} {v : Value} (hc : w0.cell? ad = some v) : w.cell? ad = some v := H.cell (World.block_lt_of_cell? _ _ hc) hc
theorem Loc.far (H : Loc w0 D L w) {g t : Nat} {cs : List Value} (hD : D g) (hb : Blk w0 g t cs) : Blk w g t cs := (H.heap hD).trans hb
theorem Loc.farO (H : Loc w0 (Old w0) L w) {g t : Nat} {cs : List Value} (hb : Blk w0 g t cs) : Blk w g t cs := H.far hb.lt hb
theorem Loc.rd (H : Loc w0 D L w) {A : Option Addr} {cs : List Value} (hD : ∀ ad, A = some ad → D ad.block) (hr : Rd w0 A cs) : Rd w A cs := hr.fr H.fr (fun ad e n => n (hD ad e))
theorem Loc.below (H : Loc w0 (Old w0) L w) : Below w0.heap.size w0 w := H.fr.to_below (fun k hk hn => absurd hk hn)
theorem Loc.rdO (H : Loc w0 (Old w0) L w) {A : Option Addr} {cs : List Value} (hr : Rd w0 A cs) : Rd w A cs := hr.below H.below
theorem Loc.next (H : Loc w0 D L w) (hb : Below w.heap.size w w') : Loc w0 D L w' :=
  ⟨H.fr.below hb, fun x hx => ⟨(H.own x hx).1, (H.own x hx).2.below hb (H.own x hx).2.lt⟩, H.nd, H.old⟩
theorem Loc.frame (H : Loc w0 D L w) {T : Nat → Prop} (hf : Fr T w w') (hT : ∀ k, T k → ¬ D k) (hL : ∀ x ∈ L, ¬ T x.1) : Loc w0 D L w' :=
  ⟨H.fr.trans ⟨hf.os, hf.tape, hf.output, hf.size, fun k hk hn => hf.block k hk (fun t => hn (hT k t))⟩, fun x hx => ⟨(H.own x hx).1, (H.own x hx).2.fr hf (hL x hx)⟩, H.nd, H.old⟩
theorem Loc.drew (H : Loc w0 D L w) : Loc w0 D L w.drew := ⟨H.fr.drew, fun x hx => ⟨(H.own x hx).1, (H.own x hx).2.drew⟩, H.nd, H.old⟩
theorem Loc.anew (H : Loc w0 D L w) {T : Nat → Prop} (hf : Fr T w w') (hL : ∀ x ∈ L, ¬ T x.1) (D' : Nat → Prop) (h1 : ∀ k, D' k → k < w'.heap.size) (h2 : ∀ x ∈ L, ¬ D' x.1) : Loc w' D' L w' :=
  ⟨Fr.refl _ _, fun x hx => ⟨h2 x hx, (H.own x hx).2.fr hf (hL x hx)⟩, H.nd, h1⟩
theorem Loc.drop (H : Loc w0 D L w) (L' : List (Nat × Nat × List Value)) (hs : L'.Sublist L) : Loc w0 D L' w :=
  ⟨H.fr, fun x hx => H.own x (hs.subset hx), H.nd.sublist hs, H.old⟩
theorem Loc.new (H : Loc w0 D L w) (t : Nat) (cs : List Value) : Loc w0 D ((w.heap.size, t, cs) :: L) (w.alloc (.cells cs.toArray t)) := by
  have h1 := H.next ((Below.refl _ w).alloc (Nat.le_refl _) (.cells cs.toArray t)); refine ⟨h1.fr, ?_, ?_, H.old⟩
  · intro x hx
    rcases List.mem_cons.1 hx with rfl | hx
    · exact ⟨fun hd => Nat.lt_irrefl _ (H.lt hd), Blk.new _ _ _⟩
    · exact h1.own x hx
  · refine List.pairwise_cons.2 ⟨fun y hy e => ?_, H.nd⟩
    have h2 := (H.own y hy).2.lt; have e' : w.heap.size = y.1 := e; omega
theorem Loc.putAt (H : Loc w0 D L w) {i g t : Nat} {cs cs' : List Value} (hL : L[i]? = some (g, t, cs)) (hb : Blk w' g t cs') (hg : w.grownBy w' (some g)) : Loc w0 D (L.set i (g, t, cs')) w' := by
  have hi : i < L.length := (List.getElem?_eq_some_iff.1 hL).1; have hm : (g, t, cs) ∈ L := List.mem_of_getElem? hL; have hgD := (H.own _ hm).1; have e : L.set i (g, t, cs') = L.take i ++ (g, t, cs') :: L.drop (i + 1) := List.set_eq_take_append_cons_drop ▸ by rw [if_pos hi]
  have e0 : L = L.take i ++ (g, t, cs) :: L.drop (i + 1) := by
    have h3 : L[i] = (g, t, cs) := by rw [List.getElem?_eq_getElem hi] at hL; simpa using hL
    rw [← h3, List.getElem_cons_drop, List.take_append_drop]
  have hnd := H.nd; rw [e0] at hnd; obtain ⟨n1, n2, n3⟩ := List.pairwise_append.1 hnd; obtain ⟨n4, n5⟩ := List.pairwise_cons.1 n2; have hf : Fr (fun k => ¬ D k) w0 w' := H.fr.grown hg (fun k hk => by cases hk; exact .inl hgD); refine ⟨hf, ?_, ?_, H.old⟩
  · intro x hx
    rw [e] at hx; have hne : ∀ x ∈ L, x.1 ≠ g → ¬ D x.1 ∧ Blk w' x.1 x.2.1 x.2.2 := fun x hx hn => ⟨(H.own x hx).1, (H.own x hx).2.grown hg (fun e => hn (Option.some.inj e))⟩
    rcases List.mem_append.1 hx with hx | hx
    · exact hne x (List.mem_of_mem_take hx) (n3 x hx (g, t, cs) (by simp))
    · rcases List.mem_cons.1 hx with rfl | hx
      · exact ⟨hgD, hb⟩
      · exact hne x (List.mem_of_mem_drop hx) (fun e => n4 x hx e.symm)
  · rw [e]
    exact List.pairwise_append.2 ⟨n1, List.pairwise_cons.2 ⟨n4, n5⟩, fun x hx y hy => by
      rcases List.mem_cons.1 hy with rfl | hy
      · exact n3 x hx (g, t, cs) (by simp)
      · exact n3 x hx y (by simp [hy])⟩
end
structure FA (P : Program) (T i n : Nat) : Prop where
  f : ∃ fs f, P.underlying T = some (.struct fs) ∧ fs[i]? = some f ∧ f.offset = n ∧ (P.info? f.type).map (fun j => decide (0 < j.size)) = some true
structure W1 (P : Program) (T : Nat) : Prop where
  u : ∃ d, P.underlying T = some d ∧ d.isRow = false
  i : (P.info? T).map (·.size) = some 1
structure ZA (P : Program) (T : Nat) (zs : List Value) : Prop where
  i : ∃ zv, (P.info? T).map (·.zero) = some (some zv) ∧ zv.cells = zs.toArray
section
variable {P : Program} {T : TypeId} {w0 w : World} {D : Nat → Prop} {L : List (Nat × Nat × List Value)} {ops : Array Oper} {rest : List Oper} {o : Oper} {a : Act} {Q : Exit → Act → World → Prop} {K : Act → World → Prop}
theorem xfm {i n : Nat} (B : FA P T i n) (x : Operand) (ho : o.op = .fieldAddr T x i) (ad : Addr) (hx : a.eval x = .pointer (some ad)) :
    (execOp a.eval o).run P w = .ok (.value (.pointer (some (ad.add n)))) w := by
  obtain ⟨fs, f, hu, hf, hn, hs⟩ := B.f
  cases hq : P.info? f.type with
  | none => simp [hq] at hs
  | some j =>
    have hj : 0 < j.size := by simpa [hq] using hs
    have e : (fieldPlace ad f).run P w = .ok (ad.add n) w := by
      simp [fieldPlace, sizeOf, typeInfo, hq, hn]; omega
    have e2 : (Instr.fieldAt T (.pointer (some ad)) i).run P w = .ok (.pointer (some (ad.add n))) w := by
      simp [Instr.fieldAt, run_underlying hu, hf, Instr.sureAddr, e]
    unfold execOp; simp only [ho, hx, Sem.run_bind, e2, Result.andThen_ok, Sem.run_pure]
theorem xg4 {i n : Nat} (B : FA P T i n) (x : Operand) (ho : o.op = .fieldAddr T x i) (g k : Nat) (hx : a.eval x = .pointer (some ⟨g, k, none⟩)) :
    (execOp a.eval o).run P w = .ok (.value (.pointer (some ⟨g, k + n, none⟩))) w := by
  have := xfm (w := w) B x ho _ hx; rwa [xew] at this
theorem xaf {i n : Nat} (B : FA P T i n) (x : Operand) (ho : o.op = .fieldAddr T x i) (g : Nat) (hx : a.eval x = .pointer (some ⟨g, 0, none⟩)) :
    (execOp a.eval o).run P w = .ok (.value (.pointer (some ⟨g, n, none⟩))) w := by
  have := xg4 (w := w) B x ho g 0 hx; rwa [Nat.zero_add] at this
theorem xg5 {n : Nat} (x : Operand) (ho : o.op = .extract x n) (vs : List Value) (v : Value) (hx : a.eval x = .tuple vs.toArray) (hv : vs[n]? = some v) : (execOp a.eval o).run P w = .ok (.value v) w := by
  unfold execOp; simp only [ho, hx]; simp [Instr.extract, hv]
theorem xb5 {n : Nat} (B : AT P T n) (H : Loc w0 D L w) (x : Operand) (ho : o.op = .load T x) (g : Nat) (hx : a.eval x = .pointer (some ⟨g, 0, none⟩)) (t : Nat) (cs : List Value) (hm : (g, t, cs) ∈ L) (hn : cs.length = n) :
    (execOp a.eval o).run P w = .ok (.value (.agg cs.toArray)) w := xa6 B x ho g t cs hx (H.blk hm) hn
theorem xbt {n : Nat} (B : AT P T n) (H : Loc w0 D L w) (x : Operand) (ho : o.op = .load T x) (g k : Nat) (hx : a.eval x = .pointer (some ⟨g, k, none⟩)) (t : Nat) (cs vs : List Value) (hm : (g, t, cs) ∈ L) (e : (cs.drop k).take n = vs) (hn : vs.length = n) :
    (execOp a.eval o).run P w = .ok (.value (.agg vs.toArray)) w := xb8 B x ho g k t cs vs hx (H.blk hm) e hn
theorem xah (B : W1 P T) (H : Loc w0 D L w) (x : Operand) (ho : o.op = .load T x) (g k : Nat) (hx : a.eval x = .pointer (some ⟨g, k, none⟩)) (t : Nat) (cs : List Value) (v : Value) (hm : (g, t, cs) ∈ L) (hv : cs[k]? = some v) :
    (execOp a.eval o).run P w = .ok (.value v) w := by
  obtain ⟨d, hu, hd⟩ := B.u; exact xb0 hu hd x ho _ _ hx (by rw [(H.blk hm).cell, hv])
theorem xax (B : W1 P T) (H : Loc w0 D L w) (x : Operand) (ho : o.op = .load T x) (ad : Addr) (hx : a.eval x = .pointer (some ad)) (v : Value) (hD : D ad.block) (hc : w0.cell? ad = some v) :
    (execOp a.eval o).run P w = .ok (.value v) w := by
  obtain ⟨d, hu, hd⟩ := B.u; exact xb0 hu hd x ho _ _ hx (H.cell hD hc)
theorem xdb (B : W1 P T) (H : Loc w0 (Old w0) L w) (x : Operand) (ho : o.op = .load T x) (ad : Addr) (hx : a.eval x = .pointer (some ad)) (v : Value) (hc : w0.cell? ad = some v) :
    (execOp a.eval o).run P w = .ok (.value v) w := by
  obtain ⟨d, hu, hd⟩ := B.u; exact xb0 hu hd x ho _ _ hx (H.cellO hc)
theorem xf1 {n : Nat} (B : AT P T n) (H : Loc w0 D L w) (x : Operand) (ho : o.op = .load T x) (g k : Nat) (hx : a.eval x = .pointer (some ⟨g, k, none⟩)) (t : Nat) (cs vs : List Value) (hD : D g) (hb : Blk w0 g t cs) (e : (cs.drop k).take n = vs) (hn : vs.length = n) :
    (execOp a.eval o).run P w = .ok (.value (.agg vs.toArray)) w := xb8 B x ho g k t cs vs hx (H.far hD hb) e hn
theorem xai {zs : List Value} (Z : ZA P T zs) (hgd : o.guard = none) (ho : o.op = .alloc T) (H : Loc w0 D L w)
    (h : ∀ g w', Loc w0 D ((g, T, zs) :: L) w' → wpList P ops Q rest (a.put o.dst (.pointer (some ⟨g, 0, none⟩))) w') : wpList P ops Q (o :: rest) a w := by
  obtain ⟨zv, hz, hc⟩ := Z.i; refine X1 ?_; intro K hK
  have e : (execOp a.eval o).run P w = .ok (.value (.pointer (some ⟨w.heap.size, 0, none⟩))) (w.alloc (.cells zs.toArray T)) := by
    cases hq : P.info? T with
    | none => simp [hq] at hz
    | some j =>
      have hj : j.zero = some zv := by simpa [hq] using hz
      unfold execOp; simp [ho, Instr.alloc, zeroValue, typeInfo, hq, hj, newVar, newRow, hc]
  unfold Oper.wp; rw [e]; exact hK _ _ (h _ _ (H.new T zs))
theorem xcb (hgd : o.guard = none) (x : Operand) (ho : o.op = .box T x) (H : Loc w0 D L w) (cs : List Value) (hx : a.eval x = .agg cs.toArray)
    (h : ∀ g w', Loc w0 D ((g, T, cs) :: L) w' → wpList P ops Q rest (a.put o.dst (.pointer (some ⟨g, 0, none⟩))) w') : wpList P ops Q (o :: rest) a w := by
  refine X1 ?_; intro K hK
  have e : (execOp a.eval o).run P w = .ok (.value (.pointer (some ⟨w.heap.size, 0, none⟩))) (w.alloc (.cells cs.toArray T)) := by
    unfold execOp; simp [ho, hx, Instr.box, newVar, newRow, Value.cells]
  unfold Oper.wp; rw [e]; exact hK _ _ (h _ _ (H.new T cs))
theorem lo_box1 (hgd : o.guard = none) (x : Operand) (ho : o.op = .box T x) (H : Loc w0 D L w) (v : Value) (hx : a.eval x = v) (h1 : v.oneCell' = true)
    (h : ∀ g w', Loc w0 D ((g, T, [v]) :: L) w' → wpList P ops Q rest (a.put o.dst (.pointer (some ⟨g, 0, none⟩))) w') : wpList P ops Q (o :: rest) a w := by
  refine X1 ?_; intro K hK; have hv : v.cells = #[v] := by cases v <;> first | rfl | (simp [Value.oneCell'] at h1)
  have e : (execOp a.eval o).run P w = .ok (.value (.pointer (some ⟨w.heap.size, 0, none⟩))) (w.alloc (.cells [v].toArray T)) := by
    unfold execOp; simp [ho, hx, Instr.box, newVar, newRow, hv]
  unfold Oper.wp; rw [e]; exact hK _ _ (h _ _ (H.new T [v]))
theorem xbn {n : Nat} (hi : AT P T n) (hgd : o.guard = none) (x y : Operand) (ho : o.op = .store T x y) (H : Loc w0 D L w) (i g t : Nat) (cs vs : List Value) (hx : a.eval x = .pointer (some ⟨g, 0, none⟩)) (hL : L[i]? = some (g, t, cs))
    (hy : a.eval y = .agg vs.toArray) (hn : vs.length = n) (hc : cs.length = n) (h1 : ∀ u ∈ vs, u.oneCell' = true) (h : ∀ w', Loc w0 D (L.set i (g, t, vs)) w' → wpList P ops Q rest (a.put o.dst undef) w') : wpList P ops Q (o :: rest) a w := by
  refine xak hi.i hgd x y ho g 0 t cs vs hx hy (H.blk (List.mem_of_getElem? hL)) hn (by omega) h1 fun w' hb hg _ => h w' ?_
  refine H.putAt hL ?_ hg; have e : splice cs 0 vs = vs := by simp [splice, hn, hc]
  rwa [e] at hb
theorem xf2 {n : Nat} (hi : AT P T n) (hgd : o.guard = none) (x y : Operand) (ho : o.op = .store T x y) (H : Loc w0 D L w) (i g k t : Nat) (cs vs cs' : List Value) (hx : a.eval x = .pointer (some ⟨g, k, none⟩)) (hL : L[i]? = some (g, t, cs))
    (hy : a.eval y = .agg vs.toArray) (hn : vs.length = n) (hf : k + n ≤ cs.length) (h1 : ∀ u ∈ vs, u.oneCell' = true) (hc : splice cs k vs = cs') (h : ∀ w', Loc w0 D (L.set i (g, t, cs')) w' → wpList P ops Q rest (a.put o.dst undef) w') : wpList P ops Q (o :: rest) a w := by
  refine xak hi.i hgd x y ho g k t cs vs hx hy (H.blk (List.mem_of_getElem? hL)) hn hf h1 fun w' hb hg _ => h w' ?_
  rw [hc] at hb; exact H.putAt hL hb hg
theorem xa1 (B : W1 P T) (hgd : o.guard = none) (x y : Operand) (ho : o.op = .store T x y) (H : Loc w0 D L w) (i g k t : Nat) (cs cs' : List Value) (v : Value) (hx : a.eval x = .pointer (some ⟨g, k, none⟩)) (hL : L[i]? = some (g, t, cs))
    (hy : a.eval y = v) (h1 : v.oneCell' = true) (hf : k < cs.length) (hc : cs.set k v = cs') (h : ∀ w', Loc w0 D (L.set i (g, t, cs')) w' → wpList P ops Q rest (a.put o.dst undef) w') : wpList P ops Q (o :: rest) a w := by
  have hb := H.blk (List.mem_of_getElem? hL); refine xdm hgd B.i x y ho g k t cs v hx hy h1 hb hf (h _ ?_); refine H.putAt hL ?_ (xcp _ _ _ _); rw [← hc]; exact hb.set_ k v
theorem xds (B : W1 P T) (x y : Operand) (ho : o.op = .store T x y) (g k t : Nat) (cs : List Value) (v : Value) (hx : a.eval x = .pointer (some ⟨g, k, none⟩)) (hb : Blk w g t cs)
    (hy : a.eval y = v) (h1 : v.oneCell' = true) (hf : k < cs.length) (h : ∀ w', Blk w' g t (cs.set k v) → Fr (· = g) w w' → w'.heap.size = w.heap.size → K (a.put o.dst undef) w') : o.wp P a w K Q :=
  xb9 B.i x y ho g k t cs v hx hy h1 hb hf (h _ (hb.set_ k v) (Fr.setCell (S := (· = g)) (p := ⟨g, k, none⟩) (Fr.refl _ _) (.inl rfl) _) (by simp))
theorem wp_callF {n : Nat} {fn : Func} (hf : P.funcs[n]? = some fn) (hnm : (fn.name == "runtime.NumGoroutine") = false) (hb : fn.body.isNone = false) {xs : Array Operand} {ts : Array TypeId} (ho : o.op = .call { callee := .value (.func n), args := xs, argTypes := ts })
    (args : Array Value) (ha : xs.map a.eval = args) (hC : Calls P n args w fun e w' => ∃ v, e = .returned v ∧ K (a.put o.dst v) w') : o.wp P a w K Q := by
  have e : (execOp a.eval o).run P w = .ok (.enter n args) w := by
    unfold execOp; simp only [ho, resolve, ha]; have h1 : fn.name ≠ "runtime.NumGoroutine" := by simpa using hnm
    have h2 : fn.body ≠ none := by intro h; rw [h] at hb; cases hb
    simp [Act.eval, Deferred.ofValue, invoke, callFunc, hf, h1, h2]
  unfold Oper.wp; rw [e]; refine hC.mono ?_; rintro e w' ⟨v, rfl, hk⟩; exact hk
end
structure D32 where
  l : List UInt8
  h : l.length = 32
theorem D32.ext {a b : D32} (h : a.l = b.l) : a = b := by cases a; cases b; cases h; rfl
theorem D32.inj {a b : D32} (h : a = b) : a.l = b.l := by rw [h]
instance : DecidableEq D32 := fun a b => if h : a.l = b.l then isTrue (D32.ext h) else isFalse (fun e => h (D32.inj e))
def D32.z : D32 := ⟨zb 32, by simp [zb]⟩
def D32.c (x : D32) : List Value := bvs x.l
theorem D32.cl (x : D32) : x.c.length = 32 := by unfold D32.c; rw [xae, x.h]
theorem D32.c1 (x : D32) : ∀ u ∈ x.c, u.oneCell' = true := xbo _
theorem bvs_inj {l m : List UInt8} (h : bvs l = bvs m) : l = m := by
  have hb : ∀ x y : UInt8, bv x = bv y → x = y := by
    intro x y e; unfold bv at e; injection e with _ e; exact UInt8.toNat_inj.1 (by omega)
  exact List.map_inj_right hb |>.1 h
theorem D32.c_inj {a b : D32} (h : a.c = b.c) : a = b := D32.ext (bvs_inj h)
structure Sv where
  A : Option Addr
  n : Nat
  c : Nat
def Sv.v (x : Sv) : Value := .slice x.A x.n x.c
def Sv.nil : Sv := ⟨none, 0, 0⟩
theorem xbi {α : Type} (a b c m : List α) (h : m.length = b.length) : splice (a ++ (b ++ c)) a.length m = a ++ (m ++ c) := by
  unfold splice; rw [List.take_left' rfl, h]; congr 2; have e : a ++ (b ++ c) = (a ++ b) ++ c := by simp
  rw [e, List.drop_left' (by simp)]
theorem get_mid {α : Type} (a b c : List α) (n : Nat) (h : b.length = n) : ((a ++ (b ++ c)).drop a.length).take n = b := by
  rw [List.drop_left' rfl, List.take_left' h]
theorem gk {α : Type} {a r : List α} {n k : Nat} {o : Option α} (h : a.length = k) (hk : k ≤ n) (z : r[n - k]? = o) : (a ++ r)[n]? = o := by rw [List.getElem?_append_right (by omega), h]; exact z
theorem gd {α : Type} {a r o : List α} {n k m : Nat} (h : a.length = k) (hk : k ≤ n) (z : (r.drop (n - k)).take m = o) : ((a ++ r).drop n).take m = o := by
  rw [List.drop_append, List.drop_eq_nil_of_le (by omega), h]; exact z
theorem gd0 {α : Type} {b r : List α} {n m : Nat} (h : b.length = m) (hn : n = 0) : ((b ++ r).drop n).take m = b := by subst hn; rw [List.drop_zero, List.take_left' h]
theorem sk {α : Type} {a r q : List α} {n k : Nat} {v : α} (h : a.length = k) (hk : k ≤ n) (z : r.set (n - k) v = q) : (a ++ r).set n v = a ++ q := by rw [List.set_append_right _ _ (by omega), h, z]
theorem sk0 {α : Type} {r : List α} {n : Nat} {u v : α} (hn : n = 0) : ([u] ++ r).set n v = [v] ++ r := by subst hn; rfl
theorem gk0 {α : Type} {r : List α} {n : Nat} {v : α} (hn : n = 0) : ([v] ++ r)[n]? = some v := by subst hn; rfl
theorem sp {α : Type} {a r q u : List α} {n k : Nat} (h : a.length = k) (hk : k ≤ n) (z : splice r (n - k) u = q) : splice (a ++ r) n u = a ++ q := by
  subst z; unfold splice; rw [List.take_append, List.take_of_length_le (by omega), h, List.drop_append, List.drop_eq_nil_of_le (by omega), h, List.nil_append, List.append_assoc, show n + u.length - k = n - k + u.length by omega]
theorem sp0 {α : Type} {b r u : List α} {n : Nat} (h : u.length = b.length) (hn : n = 0) : splice (b ++ r) n u = u ++ r := by
  subst hn; have := xbi [] b r u h; simpa using this
theorem Zg {q : Prop} (z : q := by
  repeat (refine gk (by first | exact (rfl : _ = 1) | exact D32.cl _) (by decide) ?_)
  exact gk0 rfl) : q := z
theorem Zd {q : Prop} (z : q := by
  repeat (refine gd (by first | exact (rfl : _ = 1) | exact D32.cl _) (by decide) ?_)
  exact gd0 (D32.cl _) rfl) : q := z
theorem Zs {q : Prop} (z : q := by
  repeat (refine sk (by first | exact (rfl : _ = 1) | exact D32.cl _) (by decide) ?_)
  exact sk0 rfl) : q := z
theorem Zp {q : Prop} (z : q := by
  repeat (refine sp (by first | exact (rfl : _ = 1) | exact D32.cl _) (by decide) ?_)
  exact sp0 (by simp only [D32.cl]) rfl) : q := z
structure Nod where
  kind : Nat
  key : D32
  val : D32
  left : D32
  right : D32
def Nod.cells (x : Nod) : List Value := [Value.int .u8 (x.kind : Int)] ++ (x.key.c ++ (x.val.c ++ (x.left.c ++ (x.right.c ++ []))))
theorem Nod.len (x : Nod) : x.cells.length = 129 := by
  simp only [Nod.cells, qp, D32.cl, qr, qs]
structure Prv where
  sides : Sv
  kind : Nat
  key : D32
  val : D32
  left : D32
  right : D32
def Prv.cells (x : Prv) : List Value := [x.sides.v] ++ ([Value.int .u8 (x.kind : Int)] ++ (x.key.c ++ (x.val.c ++ (x.left.c ++ (x.right.c ++ [])))))
theorem Prv.len (x : Prv) : x.cells.length = 130 := by
  simp only [Prv.cells, qp, D32.cl, qr, qs]
structure Brv where
  kind : Nat
  key : D32
  val : D32
  dig : D32
def Brv.cells (x : Brv) : List Value := [Value.int .u8 (x.kind : Int)] ++ (x.key.c ++ (x.val.c ++ (x.dig.c ++ [])))
theorem Brv.len (x : Brv) : x.cells.length = 97 := by
  simp only [Brv.cells, qp, D32.cl, qr, qs]
structure Sai where
  there : Bool
  val : D32
def Sai.cells (x : Sai) : List Value := [Value.bool x.there] ++ (x.val.c ++ [])
theorem Sai.len (x : Sai) : x.cells.length = 33 := by
  simp only [Sai.cells, qp, D32.cl, qr, qs]
structure Clm where
  there : Bool
  val : Sv
  byt : Sv
def Clm.cells (x : Clm) : List Value := [Value.bool x.there] ++ ([x.val.v] ++ ([x.byt.v] ++ []))
theorem Clm.len (x : Clm) : x.cells.length = 3 := by
  simp only [Clm.cells, qp, D32.cl, qr, qs]
structure Cla where
  fst : Sv
  snd : Sv
def Cla.cells (x : Cla) : List Value := [x.fst.v] ++ ([x.snd.v] ++ [])
theorem Cla.len (x : Cla) : x.cells.length = 2 := by
  simp only [Cla.cells, qp, D32.cl, qr, qs]
structure Spv where
  parts : Sv
  vals : Sv
def Spv.cells (x : Spv) : List Value := [x.parts.v] ++ ([x.vals.v] ++ [])
theorem Spv.len (x : Spv) : x.cells.length = 2 := by
  simp only [Spv.cells, qp, D32.cl, qr, qs]
structure Say where
  fst : Bool
  snd : Bool
  same : Bool
def Say.cells (x : Say) : List Value := [Value.bool x.fst] ++ ([Value.bool x.snd] ++ ([Value.bool x.same] ++ []))
theorem Say.len (x : Say) : x.cells.length = 3 := by
  simp only [Say.cells, qp, D32.cl, qr, qs]
structure Par where
  key : D32
  val : Sv
def Par.cells (x : Par) : List Value := x.key.c ++ ([x.val.v] ++ [])
theorem Par.len (x : Par) : x.cells.length = 33 := by
  simp only [Par.cells, qp, D32.cl, qr, qs]
theorem Par.one (x : Par) : ∀ u ∈ x.cells, u.oneCell' = true := by
  intro u hu; simp only [Par.cells, List.mem_append, List.mem_cons, List.not_mem_nil, or_false] at hu; rcases hu with hu | rfl
  · exact D32.c1 _ u hu
  · rfl
def Par.z : Par := ⟨D32.z, Sv.nil⟩
theorem Par.g_key (x : Par) : (x.cells.drop 0).take 32 = x.key.c := by unfold Par.cells; exact Zd
theorem Par.s_key (x : Par) (y : D32) : splice x.cells 0 y.c = ({x with key := y} : Par).cells := by unfold Par.cells; exact Zp
theorem Par.g_val (x : Par) : x.cells[32]? = some (x.val.v) := by unfold Par.cells; exact Zg
theorem Par.s_val (x : Par) (y : Sv) : x.cells.set 32 (y.v) = ({x with val := y} : Par).cells := by unfold Par.cells; exact Zs
structure Str where
  fr : D32
  til : D32
def Str.cells (x : Str) : List Value := x.fr.c ++ (x.til.c ++ [])
theorem Str.len (x : Str) : x.cells.length = 64 := by
  simp only [Str.cells, qp, D32.cl, qr, qs]
structure Nd where
  dig : D32
  kind : Nat
  depth : Int
  key : D32
  vs : Sv
  hash : D32
  left : Int
  right : Int
  size : Int
  held : Int
def Nd.cells (x : Nd) : List Value := x.dig.c ++ ([Value.int .u8 (x.kind : Int)] ++ ([Value.int .i64 x.depth] ++ (x.key.c ++ ([x.vs.v] ++ (x.hash.c ++ ([Value.int .i64 x.left] ++ ([Value.int .i64 x.right] ++ ([Value.int .i64 x.size] ++ ([Value.int .i64 x.held] ++ [])))))))))
theorem Nd.len (x : Nd) : x.cells.length = 103 := by
  simp only [Nd.cells, qp, D32.cl, qr, qs]
theorem Nd.one (x : Nd) : ∀ u ∈ x.cells, u.oneCell' = true := by
  intro u hu; simp only [Nd.cells, List.mem_append, List.mem_cons, List.not_mem_nil, or_false] at hu; rcases hu with hu | rfl | rfl | hu | rfl | hu | rfl | rfl | rfl | rfl
  · exact D32.c1 _ u hu
  · rfl
  · rfl
  · exact D32.c1 _ u hu
  · rfl
  · exact D32.c1 _ u hu
  · rfl
  · rfl
  · rfl
  · rfl
def Nd.z : Nd := ⟨D32.z, 0, 0, D32.z, Sv.nil, D32.z, 0, 0, 0, 0⟩
theorem Nd.g_dig (x : Nd) : (x.cells.drop 0).take 32 = x.dig.c := by unfold Nd.cells; exact Zd
theorem Nd.s_dig (x : Nd) (y : D32) : splice x.cells 0 y.c = ({x with dig := y} : Nd).cells := by unfold Nd.cells; exact Zp
theorem Nd.g_kind (x : Nd) : x.cells[32]? = some (Value.int .u8 (x.kind : Int)) := by unfold Nd.cells; exact Zg
theorem Nd.s_kind (x : Nd) (y : Nat) : x.cells.set 32 (Value.int .u8 (y : Int)) = ({x with kind := y} : Nd).cells := by unfold Nd.cells; exact Zs
theorem Nd.g_depth (x : Nd) : x.cells[33]? = some (Value.int .i64 x.depth) := by unfold Nd.cells; exact Zg
theorem Nd.s_depth (x : Nd) (y : Int) : x.cells.set 33 (Value.int .i64 y) = ({x with depth := y} : Nd).cells := by unfold Nd.cells; exact Zs
theorem Nd.g_key (x : Nd) : (x.cells.drop 34).take 32 = x.key.c := by unfold Nd.cells; exact Zd
theorem Nd.s_key (x : Nd) (y : D32) : splice x.cells 34 y.c = ({x with key := y} : Nd).cells := by unfold Nd.cells; exact Zp
theorem Nd.g_vs (x : Nd) : x.cells[66]? = some (x.vs.v) := by unfold Nd.cells; exact Zg
theorem Nd.s_vs (x : Nd) (y : Sv) : x.cells.set 66 (y.v) = ({x with vs := y} : Nd).cells := by unfold Nd.cells; exact Zs
theorem Nd.s_hash (x : Nd) (y : D32) : splice x.cells 67 y.c = ({x with hash := y} : Nd).cells := by unfold Nd.cells; exact Zp
theorem Nd.g_left (x : Nd) : x.cells[99]? = some (Value.int .i64 x.left) := by unfold Nd.cells; exact Zg
theorem Nd.s_left (x : Nd) (y : Int) : x.cells.set 99 (Value.int .i64 y) = ({x with left := y} : Nd).cells := by unfold Nd.cells; exact Zs
theorem Nd.g_right (x : Nd) : x.cells[100]? = some (Value.int .i64 x.right) := by unfold Nd.cells; exact Zg
theorem Nd.s_right (x : Nd) (y : Int) : x.cells.set 100 (Value.int .i64 y) = ({x with right := y} : Nd).cells := by unfold Nd.cells; exact Zs
theorem Nd.g_size (x : Nd) : x.cells[101]? = some (Value.int .i64 x.size) := by unfold Nd.cells; exact Zg
theorem Nd.s_size (x : Nd) (y : Int) : x.cells.set 101 (Value.int .i64 y) = ({x with size := y} : Nd).cells := by unfold Nd.cells; exact Zs
theorem Nd.g_held (x : Nd) : x.cells[102]? = some (Value.int .i64 x.held) := by unfold Nd.cells; exact Zg
theorem Nd.s_held (x : Nd) (y : Int) : x.cells.set 102 (Value.int .i64 y) = ({x with held := y} : Nd).cells := by unfold Nd.cells; exact Zs
structure Slo where
  dig : D32
  kind : Nat
  depth : Int
  key : D32
  vs : Sv
  hash : D32
  left : Int
  right : Int
  size : Int
  held : Int
  count : Int
def Slo.cells (x : Slo) : List Value := x.dig.c ++ ([Value.int .u8 (x.kind : Int)] ++ ([Value.int .i64 x.depth] ++ (x.key.c ++ ([x.vs.v] ++ (x.hash.c ++ ([Value.int .i64 x.left] ++ ([Value.int .i64 x.right] ++ ([Value.int .i64 x.size] ++ ([Value.int .i64 x.held] ++ ([Value.int .i64 x.count] ++ []))))))))))
theorem Slo.len (x : Slo) : x.cells.length = 104 := by
  simp only [Slo.cells, qp, D32.cl, qr, qs]
theorem Slo.one (x : Slo) : ∀ u ∈ x.cells, u.oneCell' = true := by
  intro u hu; simp only [Slo.cells, List.mem_append, List.mem_cons, List.not_mem_nil, or_false] at hu; rcases hu with hu | rfl | rfl | hu | rfl | hu | rfl | rfl | rfl | rfl | rfl
  · exact D32.c1 _ u hu
  · rfl
  · rfl
  · exact D32.c1 _ u hu
  · rfl
  · exact D32.c1 _ u hu
  · rfl
  · rfl
  · rfl
  · rfl
  · rfl
def Slo.z : Slo := ⟨D32.z, 0, 0, D32.z, Sv.nil, D32.z, 0, 0, 0, 0, 0⟩
theorem Slo.g_count (x : Slo) : x.cells[103]? = some (Value.int .i64 x.count) := by unfold Slo.cells; exact Zg
theorem Slo.s_count (x : Slo) (y : Int) : x.cells.set 103 (Value.int .i64 y) = ({x with count := y} : Slo).cells := by unfold Slo.cells; exact Zs
structure Plc where
  above : Sv
  fin : Int
  same : Bool
  other : Bool
def Plc.cells (x : Plc) : List Value := [x.above.v] ++ ([Value.int .i64 x.fin] ++ ([Value.bool x.same] ++ ([Value.bool x.other] ++ [])))
theorem Plc.len (x : Plc) : x.cells.length = 4 := by
  simp only [Plc.cells, qp, D32.cl, qr, qs]
theorem Plc.one (x : Plc) : ∀ u ∈ x.cells, u.oneCell' = true := by
  intro u hu; simp only [Plc.cells, List.mem_append, List.mem_cons, List.not_mem_nil, or_false] at hu; rcases hu with rfl | rfl | rfl | rfl
  · rfl
  · rfl
  · rfl
  · rfl
def Plc.z : Plc := ⟨Sv.nil, 0, false, false⟩
theorem Plc.g_above (x : Plc) : x.cells[0]? = some (x.above.v) := by unfold Plc.cells; exact Zg
theorem Plc.s_above (x : Plc) (y : Sv) : x.cells.set 0 (y.v) = ({x with above := y} : Plc).cells := by unfold Plc.cells; exact Zs
theorem Plc.g_fin (x : Plc) : x.cells[1]? = some (Value.int .i64 x.fin) := by unfold Plc.cells; exact Zg
theorem Plc.s_fin (x : Plc) (y : Int) : x.cells.set 1 (Value.int .i64 y) = ({x with fin := y} : Plc).cells := by unfold Plc.cells; exact Zs
theorem Plc.g_same (x : Plc) : x.cells[2]? = some (Value.bool x.same) := by unfold Plc.cells; exact Zg
theorem Plc.s_same (x : Plc) (y : Bool) : x.cells.set 2 (Value.bool y) = ({x with same := y} : Plc).cells := by unfold Plc.cells; exact Zs
theorem Plc.g_other (x : Plc) : x.cells[3]? = some (Value.bool x.other) := by unfold Plc.cells; exact Zg
theorem Plc.s_other (x : Plc) (y : Bool) : x.cells.set 3 (Value.bool y) = ({x with other := y} : Plc).cells := by unfold Plc.cells; exact Zs
def Nd.slo (x : Nd) (c : Int) : Slo := ⟨x.dig, x.kind, x.depth, x.key, x.vs, x.hash, x.left, x.right, x.size, x.held, c⟩
theorem Nd.slo_cells (x : Nd) (c : Int) : (x.slo c).cells = x.cells ++ [.int .i64 c] := by simp only [Slo.cells, Nd.cells, Nd.slo, qo, qn, qu, qm]
end Go.Proofs.YtkjjdgnkelchfaaGreat
